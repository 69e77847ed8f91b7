/- twins of bytes and keys -/
import Derived.Test.YtmibkfdpgmohfaaGreatDoorR2
set_option linter.all false
namespace Go.Fer
open Go Go.Proofs Go.RowKit

/-- what a message holds -/
structure MC where
 v0 : Bool
 h : Header
 keys : List (Vector UInt8 32)
 recent : Vector UInt8 32
 ins : List (UInt8 × List UInt8 × List UInt8)
 lks : List (Vector UInt8 32 × List UInt8 × List UInt8)
deriving DecidableEq
def IsI (w : World) (x : Instr) (c : UInt8 × List UInt8 × List UInt8) : Prop := x.program = c.1 ∧ SlR w x.accounts.v c.2.1 ∧ SlR w x.data.v c.2.2
def IsL (w : World) (x : Lookup) (c : Vector UInt8 32 × List UInt8 × List UInt8) : Prop := x.table = c.1 ∧ SlR w x.writes.v c.2.1 ∧ SlR w x.reads.v c.2.2
theorem IsI.bel {w w' : World} {x : Instr} {c : UInt8 × List UInt8 × List UInt8} (h : IsI w x c) (hb : Bel w w') : IsI w' x c := ⟨h.1, h.2.1.bel hb, h.2.2.bel hb⟩
theorem IsL.bel {w w' : World} {x : Lookup} {c : Vector UInt8 32 × List UInt8 × List UInt8} (h : IsL w x c) (hb : Bel w w') : IsL w' x c := ⟨h.1, h.2.1.bel hb, h.2.2.bel hb⟩
def IsIs (w : World) (l : List Instr) (c : List (UInt8 × List UInt8 × List UInt8)) : Prop := l.length = c.length ∧ ∀ i (h1 : i < l.length) (h2 : i < c.length), IsI w l[i] c[i]
def IsLs (w : World) (l : List Lookup) (c : List (Vector UInt8 32 × List UInt8 × List UInt8)) : Prop := l.length = c.length ∧ ∀ i (h1 : i < l.length) (h2 : i < c.length), IsL w l[i] c[i]
theorem IsIs.bel {w w' : World} {l : List Instr} {c : List (UInt8 × List UInt8 × List UInt8)} (h : IsIs w l c) (hb : Bel w w') : IsIs w' l c := ⟨h.1, fun i h1 h2 => (h.2 i h1 h2).bel hb⟩
theorem IsLs.bel {w w' : World} {l : List Lookup} {c : List (Vector UInt8 32 × List UInt8 × List UInt8)} (h : IsLs w l c) (hb : Bel w w') : IsLs w' l c := ⟨h.1, fun i h1 h2 => (h.2 i h1 h2).bel hb⟩
/-- a message with its lists of structs -/
structure IsM (w : World) (m : Message) (c : MC) (ins : List Instr) (lks : List Lookup) : Prop where
 v0 : m.v0 = c.v0
 h : m.header = c.h
 recent : m.recent = c.recent
 k : SlR w m.keys.v c.keys
 i : SlR w m.instrs.v ins
 ii : IsIs w ins c.ins
 l : SlR w m.lookups.v lks
 ll : IsLs w lks c.lks
theorem IsM.bel {w w' : World} {m : Message} {c : MC} {ins : List Instr} {lks : List Lookup} (h : IsM w m c ins lks) (hb : Bel w w') : IsM w' m c ins lks :=
 ⟨h.v0, h.h, h.recent, h.k.bel hb, h.i.bel hb, h.ii.bel hb, h.l.bel hb, h.ll.bel hb⟩
theorem isIs_of {w : World} : ∀ {ins : List Instr}, (∀ e ∈ ins, Instr.okz w e) → ∃ c, IsIs w ins c
 | [], _ => ⟨[], rfl, fun i h => by cases h⟩
 | x :: ins, h => by
  obtain ⟨c, h1, h2⟩ := isIs_of (ins := ins) (fun e he => h e (List.mem_cons_of_mem _ he))
  obtain ⟨⟨la, ha, _⟩, ⟨ld, hd, _⟩⟩ := h x List.mem_cons_self
  refine ⟨(x.program, la, ld) :: c, by simp [h1], fun i g1 g2 => ?_⟩
  cases i with
  | zero => exact ⟨rfl, ha, hd⟩
  | succ i => exact h2 i (by simpa using g1) (by simpa using g2)
theorem isLs_of {w : World} : ∀ {lks : List Lookup}, (∀ e ∈ lks, Lookup.okz w e) → ∃ c, IsLs w lks c
 | [], _ => ⟨[], rfl, fun i h => by cases h⟩
 | x :: lks, h => by
  obtain ⟨c, h1, h2⟩ := isLs_of (lks := lks) (fun e he => h e (List.mem_cons_of_mem _ he))
  obtain ⟨⟨la, ha, _⟩, ⟨ld, hd, _⟩⟩ := h x List.mem_cons_self
  refine ⟨(x.table, la, ld) :: c, by simp [h1], fun i g1 g2 => ?_⟩
  cases i with
  | zero => exact ⟨rfl, ha, hd⟩
  | succ i => exact h2 i (by simpa using g1) (by simpa using g2)
/-- how many bytes lists of pairs have -/
def sumB {α : Type} (l : List (α × List UInt8 × List UInt8)) : Nat := (l.map fun c => c.2.1.length + c.2.2.length).sum
theorem sumB_step {α : Type} {l : List (α × List UInt8 × List UInt8)} {k : Nat} (hk : k < l.length) : sumB (l.take (k + 1)) = sumB (l.take k) + (l[k].2.1.length + l[k].2.2.length) := by
 unfold sumB; rw [List.take_succ_eq_append_getElem hk, List.map_append, List.sum_append]; simp
theorem sumB_ge {α : Type} {l : List (α × List UInt8 × List UInt8)} {k : Nat} (hk : k < l.length) : l[k].2.1.length + l[k].2.2.length ≤ sumB l := by
 induction l generalizing k with
 | nil => cases hk
 | cons x l ih =>
  cases k with
  | zero => simp [sumB]
  | succ k => have := ih (k := k) (by simpa using hk); simp only [sumB, List.map_cons, List.sum_cons, List.getElem_cons_succ] at this ⊢; omega
def MC.size (c : MC) : Nat := c.keys.length + c.ins.length + c.lks.length + sumB c.ins + sumB c.lks
theorem okz_isM {w : World} {m : Message} (hm : m.okz w) : ∃ c ins lks, IsM w m c ins lks ∧ c.keys.length ≤ 140737488351232 ∧ ins.length ≤ 140737488351232 ∧ lks.length ≤ 140737488351232 ∧ (∀ i (h : i < c.ins.length), c.ins[i].2.1.length ≤ 140737488351232 ∧ c.ins[i].2.2.length ≤ 140737488351232) ∧ (∀ i (h : i < c.lks.length), c.lks[i].2.1.length ≤ 140737488351232 ∧ c.lks[i].2.2.length ≤ 140737488351232) := by
 obtain ⟨_, ⟨keys, hk, hk1, _⟩, ⟨ins, hi, hi1, hi2⟩, ⟨lks, hl, hl1, hl2⟩⟩ := hm
 obtain ⟨ci, hci⟩ := isIs_of hi2
 obtain ⟨cl, hcl⟩ := isLs_of hl2
 refine ⟨⟨m.v0, m.header, keys, m.recent, ci, cl⟩, ins, lks, ⟨rfl, rfl, rfl, hk, hi, hci, hl, hcl⟩, by show keys.length ≤ _; omega, by omega, by omega, fun i h => ?_, fun i h => ?_⟩
 ·have h1 : i < ins.length := by have := hci.1; have h : i < ci.length := h; omega
  obtain ⟨_, g1, g2⟩ := hci.2 i h1 h
  obtain ⟨⟨la, ha, ha1, _⟩, ⟨ld, hd, hd1, _⟩⟩ := hi2 _ (List.getElem_mem h1)
  refine ⟨?_, ?_⟩
  ·rw [← lenV_eq g1, lenV_eq ha]; omega
  ·rw [← lenV_eq g2, lenV_eq hd]; omega
 ·have h1 : i < lks.length := by have := hcl.1; have h : i < cl.length := h; omega
  obtain ⟨_, g1, g2⟩ := hcl.2 i h1 h
  obtain ⟨⟨la, ha, ha1, _⟩, ⟨ld, hd, hd1, _⟩⟩ := hl2 _ (List.getElem_mem h1)
  refine ⟨?_, ?_⟩
  ·rw [← lenV_eq g1, lenV_eq ha]; omega
  ·rw [← lenV_eq g2, lenV_eq hd]; omega

theorem same_len {α : Type} {xs ys : List α} (h : xs ≠ ys ∨ True) : True := trivial
theorem take_all_eq {α : Type} {xs ys : List α} {k : Nat} (hl : xs.length = ys.length) (h : xs.take k = ys.take k) (hk : xs.length ≤ k) : xs = ys := by
 rw [List.take_of_length_le hk, List.take_of_length_le (by omega)] at h; exact h
theorem take_succ_eq {α : Type} {xs ys : List α} {k : Nat} (h : xs.take k = ys.take k) (h1 : k < xs.length) (h2 : k < ys.length) (he : xs[k] = ys[k]) : xs.take (k + 1) = ys.take (k + 1) := by
 rw [List.take_succ_eq_append_getElem h1, List.take_succ_eq_append_getElem h2, h, he]
theorem get_ne {α : Type} {xs ys : List α} {k : Nat} (h1 : k < xs.length) (h2 : k < ys.length) (he : xs[k] ≠ ys[k]) : xs ≠ ys := fun e => he (by subst e; rfl)

theorem same_b (w0 : World) (v u : Value) (xs ys : List UInt8) (hx : SlR w0 v xs) (hy : SlR w0 u ys) : Ret Tryz.prog 61 #[v, u] w0 (fun r w' => r = .bool (decide (xs = ys)) ∧ Bel w0 w') := by
 refine Ret.enter (args := [v, u]) Tryz.func61 rfl Tryz.ntmps61 Tryz.results61 rfl ?_
 have hS := St.start w0
 refine WC.seq (fun K1 hK1 => ?_)
 refine WC.region ?_
 refine WL.op rfl (opW.assignB rfl ?_)
 refine WL.nil ?_
 refine thenQ_n (hK1 _ _ ?_)
 refine WC.seq (fun K2 hK2 => ?_)
 refine WC.seq (fun K3 hK3 => ?_)
 refine WC.region ?_
 refine WL.op rfl (opW.moveV (v := v) rfl ?_)
 refine WL.op rfl (opW.lenV rfl ((hx.bel hS.old)) ?_)
 refine WL.op rfl (opW.moveV (v := u) rfl ?_)
 refine WL.op rfl (opW.lenV rfl ((hy.bel hS.old)) ?_)
 refine WL.op rfl (opW.neq rfl rfl ?_)
 refine WL.nil ?_
 refine thenQ_n (hK3 _ _ ?_)
 refine WC.cond _ rfl (fun hc0 => ?_) (fun hc0 => ?_)
 ·
  have hr0 := hc0
  try simp only [sq1,sq2,sq3,sq4,sq5,sq6,sq7,sq8,sq9,sq0] at hc0
  refine WC.seq (fun K4 hK4 => ?_)
  refine WC.region ?_
  refine WL.op rfl (opW.assignB rfl ?_)
  refine WL.nil ?_
  refine thenQ_n (hK4 _ _ ?_)
  refine WC.ret ?_
  refine thenQ_r ?_
  refine bodyQ_ret (.tmpB rfl .nil) ?_
  refine ⟨?_, hS.old⟩
  rw [decide_eq_false (fun e => hc0 (by rw [e]))]
  rfl
 ·
  have hr0 := hc0
  try simp only [sq1,sq2,sq3,sq4,sq5,sq6,sq7,sq8,sq9,sq0] at hc0
  have hlen : xs.length = ys.length := by omega
  refine WC.skip ?_
  refine thenQ_n (hK2 _ _ ?_)
  refine WC.seq (fun K5 hK5 => ?_)
  refine WC.seq (fun K6 hK6 => ?_)
  refine WC.region ?_
  refine WL.op rfl (opW.assignI rfl ?_)
  refine WL.nil ?_
  refine thenQ_n (hK6 _ _ ?_)
  refine WC.block ?_
  refine WC.loop (fun m f w => ∃ k : Nat, Fits [(0, v), (1, u), (5, .int .i64 (k : Int))] f ∧ St w0 [] w ∧ xs.take k = ys.take k ∧ m = xs.length - k) (xs.length) ?_ ?_
  ·
   exact ⟨0, ⟨rfl, rfl, rfl, trivial⟩, hS, rfl, rfl⟩
  ·
   rintro m f w ⟨k, hfit, hS, ht, hm⟩
   refine WC.fits _ hfit (fun g => ?_)
   clear hfit
   refine WC.seq (fun K7 hK7 => ?_)
   refine WC.seq (fun K8 hK8 => ?_)
   refine WC.region ?_
   refine WL.op rfl (opW.moveI rfl ?_)
   refine WL.op rfl (opW.moveV (v := v) rfl ?_)
   refine WL.op rfl (opW.lenV rfl ((hx.bel hS.old)) ?_)
   refine WL.op rfl (opW.lss rfl rfl ?_)
   refine WL.nil ?_
   refine thenQ_n (hK8 _ _ ?_)
   refine WC.cond _ rfl (fun hc1 => ?_) (fun hc1 => ?_)
   ·
    have hr1 := hc1
    try simp only [sq1,sq2,sq3,sq4,sq5,sq6,sq7,sq8,sq9,sq0] at hc1
    have hk1 : k < xs.length := by omega
    have hk2 : k < ys.length := by omega
    have hle := hx.le
    simp only [maxLen] at hle
    refine WC.skip ?_
    refine thenQ_n (hK7 _ _ ?_)
    refine WC.seq (fun K9 hK9 => ?_)
    refine WC.block ?_
    refine WC.seq (fun K10 hK10 => ?_)
    refine WC.draw 9 (.look 0 (.look 1 (.look 2 (.look 3 (.look 4 (.look 5 (.look 6 (.look 7 (.look 8 .nil))))))))) (by kernel_rfl) (fun _ _ _ h => h) (fun w1 hw1 => ?_)
    replace hS := hS.bel hw1
    have hS1 := hS
    have hT := St.start w1
    refine ML.look rfl rfl rfl (fun w hw => (by have hS := hS1.bel hw; exact opW.moveV (v := v) rfl ⟨rfl, rfl⟩)) ?_
    refine ML.look rfl rfl rfl (fun w hw => (by have hS := hS1.bel hw; exact opW.moveI rfl ⟨rfl, rfl⟩)) ?_
    refine ML.look rfl rfl rfl (fun w hw => (by have hS := hS1.bel hw; exact opW.idxV rfl ((hx.bel hS.old)) rfl (by omega) ⟨rfl, rfl⟩)) ?_
    refine ML.look rfl rfl rfl (fun w hw => (by have hS := hS1.bel hw; exact opW.loadV rfl ((((hx.bel hS.old).isPt hk1).ld rfl)) ⟨rfl, rfl⟩)) ?_
    refine ML.look rfl rfl rfl (fun w hw => (by have hS := hS1.bel hw; exact opW.moveV (v := u) rfl ⟨rfl, rfl⟩)) ?_
    refine ML.look rfl rfl rfl (fun w hw => (by have hS := hS1.bel hw; exact opW.moveI rfl ⟨rfl, rfl⟩)) ?_
    refine ML.look rfl rfl rfl (fun w hw => (by have hS := hS1.bel hw; exact opW.idxV rfl ((hy.bel hS.old)) rfl (by omega) ⟨rfl, rfl⟩)) ?_
    refine ML.look rfl rfl rfl (fun w hw => (by have hS := hS1.bel hw; exact opW.loadV rfl ((((hy.bel hS.old).isPt hk2).ld rfl)) ⟨rfl, rfl⟩)) ?_
    refine ML.look rfl rfl rfl (fun w hw => (by have hS := hS1.bel hw; exact opW.neq rfl rfl ⟨rfl, rfl⟩)) ?_
    refine ML.nil ?_
    refine thenQ_n (hK10 _ _ ?_)
    refine WC.cond _ rfl (fun hc2 => ?_) (fun hc2 => ?_)
    ·
     have hr2 := hc2
     try simp only [sq1,sq2,sq3,sq4,sq5,sq6,sq7,sq8,sq9,sq0] at hc2
     refine WC.seq (fun K11 hK11 => ?_)
     refine WC.region ?_
     refine WL.op rfl (opW.assignB rfl ?_)
     refine WL.nil ?_
     refine thenQ_n (hK11 _ _ ?_)
     refine WC.ret ?_
     refine blockQ_r ?_
     refine thenQ_r ?_
     refine thenQ_r ?_
     refine blockQ_r ?_
     refine thenQ_r ?_
     refine bodyQ_ret (.tmpB rfl .nil) ?_
     refine ⟨?_, hS.old⟩
     rw [decide_eq_false (get_ne hk1 hk2 (fun e => hc2 (congrArg (fun c : UInt8 => (c.toNat : Int)) e)))]
     rfl
    ·
     have hr2 := hc2
     try simp only [sq1,sq2,sq3,sq4,sq5,sq6,sq7,sq8,sq9,sq0] at hc2
     refine WC.skip ?_
     refine blockQ_n ?_
     refine thenQ_n (hK9 _ _ ?_)
     refine WC.region ?_
     refine WL.op rfl (opW.moveI rfl ?_)
     refine WL.op rfl (opW.add rfl rfl (wrap_i64 (by omega)) ?_)
     refine WL.op rfl (opW.assignI rfl ?_)
     refine WL.nil ?_
     refine thenQ_n ?_
     refine ⟨xs.length - (k + 1), by omega, k + 1, ⟨rfl, rfl, congrArg (Value.int .i64) (by omega), trivial⟩, hS, take_succ_eq ht hk1 hk2 (u8_eq_of hc2), rfl⟩
   ·
    have hr1 := hc1
    try simp only [sq1,sq2,sq3,sq4,sq5,sq6,sq7,sq8,sq9,sq0] at hc1
    refine WC.exit ?_
    refine thenQ_e ?_
    refine thenQ_e ?_
    refine blockQ_hit ?_
    refine thenQ_n (hK5 _ _ ?_)
    refine WC.seq (fun K12 hK12 => ?_)
    refine WC.region ?_
    refine WL.op rfl (opW.assignB rfl ?_)
    refine WL.nil ?_
    refine thenQ_n (hK12 _ _ ?_)
    refine WC.ret ?_
    refine bodyQ_ret (.tmpB rfl .nil) ?_
    refine ⟨?_, hS.old⟩
    rw [decide_eq_true (take_all_eq hlen ht (by omega))]
    rfl

theorem same_k (w0 : World) (v u : Value) (xs ys : List (Vector UInt8 32)) (hx : SlR w0 v xs) (hy : SlR w0 u ys) : Ret Tryz.prog 89 #[v, u] w0 (fun r w' => r = .bool (decide (xs = ys)) ∧ Bel w0 w') := by
 refine Ret.enter (args := [v, u]) Tryz.func89 rfl Tryz.ntmps89 Tryz.results89 rfl ?_
 have hS := St.start w0
 refine WC.seq (fun K1 hK1 => ?_)
 refine WC.region ?_
 refine WL.op rfl (opW.assignB rfl ?_)
 refine WL.nil ?_
 refine thenQ_n (hK1 _ _ ?_)
 refine WC.seq (fun K2 hK2 => ?_)
 refine WC.seq (fun K3 hK3 => ?_)
 refine WC.region ?_
 refine WL.op rfl (opW.moveV (v := v) rfl ?_)
 refine WL.op rfl (opW.lenV rfl ((hx.bel hS.old)) ?_)
 refine WL.op rfl (opW.moveV (v := u) rfl ?_)
 refine WL.op rfl (opW.lenV rfl ((hy.bel hS.old)) ?_)
 refine WL.op rfl (opW.neq rfl rfl ?_)
 refine WL.nil ?_
 refine thenQ_n (hK3 _ _ ?_)
 refine WC.cond _ rfl (fun hc0 => ?_) (fun hc0 => ?_)
 ·
  have hr0 := hc0
  try simp only [sq1,sq2,sq3,sq4,sq5,sq6,sq7,sq8,sq9,sq0] at hc0
  refine WC.seq (fun K4 hK4 => ?_)
  refine WC.region ?_
  refine WL.op rfl (opW.assignB rfl ?_)
  refine WL.nil ?_
  refine thenQ_n (hK4 _ _ ?_)
  refine WC.ret ?_
  refine thenQ_r ?_
  refine bodyQ_ret (.tmpB rfl .nil) ?_
  refine ⟨?_, hS.old⟩
  rw [decide_eq_false (fun e => hc0 (by rw [e]))]
  rfl
 ·
  have hr0 := hc0
  try simp only [sq1,sq2,sq3,sq4,sq5,sq6,sq7,sq8,sq9,sq0] at hc0
  have hlen : xs.length = ys.length := by omega
  refine WC.skip ?_
  refine thenQ_n (hK2 _ _ ?_)
  refine WC.seq (fun K5 hK5 => ?_)
  refine WC.seq (fun K6 hK6 => ?_)
  refine WC.region ?_
  refine WL.op rfl (opW.assignI rfl ?_)
  refine WL.nil ?_
  refine thenQ_n (hK6 _ _ ?_)
  refine WC.block ?_
  refine WC.loop (fun m f w => ∃ k : Nat, Fits [(0, v), (1, u), (5, .int .i64 (k : Int))] f ∧ St w0 [] w ∧ xs.take k = ys.take k ∧ m = xs.length - k) (xs.length) ?_ ?_
  ·
   exact ⟨0, ⟨rfl, rfl, rfl, trivial⟩, hS, rfl, rfl⟩
  ·
   rintro m f w ⟨k, hfit, hS, ht, hm⟩
   refine WC.fits _ hfit (fun g => ?_)
   clear hfit
   refine WC.seq (fun K7 hK7 => ?_)
   refine WC.seq (fun K8 hK8 => ?_)
   refine WC.region ?_
   refine WL.op rfl (opW.moveI rfl ?_)
   refine WL.op rfl (opW.moveV (v := v) rfl ?_)
   refine WL.op rfl (opW.lenV rfl ((hx.bel hS.old)) ?_)
   refine WL.op rfl (opW.lss rfl rfl ?_)
   refine WL.nil ?_
   refine thenQ_n (hK8 _ _ ?_)
   refine WC.cond _ rfl (fun hc1 => ?_) (fun hc1 => ?_)
   ·
    have hr1 := hc1
    try simp only [sq1,sq2,sq3,sq4,sq5,sq6,sq7,sq8,sq9,sq0] at hc1
    have hk1 : k < xs.length := by omega
    have hk2 : k < ys.length := by omega
    have hle := hx.le
    simp only [maxLen] at hle
    refine WC.skip ?_
    refine thenQ_n (hK7 _ _ ?_)
    refine WC.seq (fun K9 hK9 => ?_)
    refine WC.block ?_
    refine WC.seq (fun K10 hK10 => ?_)
    refine WC.draw 9 (.look 0 (.look 1 (.look 2 (.look 3 (.look 4 (.look 5 (.look 6 (.look 7 (.look 8 .nil))))))))) (by kernel_rfl) (fun _ _ _ h => h) (fun w1 hw1 => ?_)
    replace hS := hS.bel hw1
    have hS1 := hS
    have hT := St.start w1
    refine ML.look rfl rfl rfl (fun w hw => (by have hS := hS1.bel hw; exact opW.moveV (v := v) rfl ⟨rfl, rfl⟩)) ?_
    refine ML.look rfl rfl rfl (fun w hw => (by have hS := hS1.bel hw; exact opW.moveI rfl ⟨rfl, rfl⟩)) ?_
    refine ML.look rfl rfl rfl (fun w hw => (by have hS := hS1.bel hw; exact opW.idxV rfl ((hx.bel hS.old)) rfl (by omega) ⟨rfl, rfl⟩)) ?_
    refine ML.look rfl rfl rfl (fun w hw => (by have hS := hS1.bel hw; exact opW.loadV rfl ((((hx.bel hS.old).isPt hk1).ldA (Enc.size_eq _))) ⟨rfl, rfl⟩)) ?_
    refine ML.look rfl rfl rfl (fun w hw => (by have hS := hS1.bel hw; exact opW.moveV (v := u) rfl ⟨rfl, rfl⟩)) ?_
    refine ML.look rfl rfl rfl (fun w hw => (by have hS := hS1.bel hw; exact opW.moveI rfl ⟨rfl, rfl⟩)) ?_
    refine ML.look rfl rfl rfl (fun w hw => (by have hS := hS1.bel hw; exact opW.idxV rfl ((hy.bel hS.old)) rfl (by omega) ⟨rfl, rfl⟩)) ?_
    refine ML.look rfl rfl rfl (fun w hw => (by have hS := hS1.bel hw; exact opW.loadV rfl ((((hy.bel hS.old).isPt hk2).ldA (Enc.size_eq _))) ⟨rfl, rfl⟩)) ?_
    refine ML.look rfl rfl rfl (fun w hw => (by have hS := hS1.bel hw; exact opW.neqE rfl rfl ⟨rfl, rfl⟩)) ?_
    refine ML.nil ?_
    refine thenQ_n (hK10 _ _ ?_)
    refine WC.cond _ rfl (fun hc2 => ?_) (fun hc2 => ?_)
    ·
     have hr2 := hc2
     try simp only [sq1,sq2,sq3,sq4,sq5,sq6,sq7,sq8,sq9,sq0] at hc2
     refine WC.seq (fun K11 hK11 => ?_)
     refine WC.region ?_
     refine WL.op rfl (opW.assignB rfl ?_)
     refine WL.nil ?_
     refine thenQ_n (hK11 _ _ ?_)
     refine WC.ret ?_
     refine blockQ_r ?_
     refine thenQ_r ?_
     refine thenQ_r ?_
     refine blockQ_r ?_
     refine thenQ_r ?_
     refine bodyQ_ret (.tmpB rfl .nil) ?_
     refine ⟨?_, hS.old⟩
     rw [decide_eq_false (get_ne hk1 hk2 (hc2))]
     rfl
    ·
     have hr2 := hc2
     try simp only [sq1,sq2,sq3,sq4,sq5,sq6,sq7,sq8,sq9,sq0] at hc2
     refine WC.skip ?_
     refine blockQ_n ?_
     refine thenQ_n (hK9 _ _ ?_)
     refine WC.region ?_
     refine WL.op rfl (opW.moveI rfl ?_)
     refine WL.op rfl (opW.add rfl rfl (wrap_i64 (by omega)) ?_)
     refine WL.op rfl (opW.assignI rfl ?_)
     refine WL.nil ?_
     refine thenQ_n ?_
     refine ⟨xs.length - (k + 1), by omega, k + 1, ⟨rfl, rfl, congrArg (Value.int .i64) (by omega), trivial⟩, hS, take_succ_eq ht hk1 hk2 (hc2), rfl⟩
   ·
    have hr1 := hc1
    try simp only [sq1,sq2,sq3,sq4,sq5,sq6,sq7,sq8,sq9,sq0] at hc1
    refine WC.exit ?_
    refine thenQ_e ?_
    refine thenQ_e ?_
    refine blockQ_hit ?_
    refine thenQ_n (hK5 _ _ ?_)
    refine WC.seq (fun K12 hK12 => ?_)
    refine WC.region ?_
    refine WL.op rfl (opW.assignB rfl ?_)
    refine WL.nil ?_
    refine thenQ_n (hK12 _ _ ?_)
    refine WC.ret ?_
    refine bodyQ_ret (.tmpB rfl .nil) ?_
    refine ⟨?_, hS.old⟩
    rw [decide_eq_true (take_all_eq hlen ht (by omega))]
    rfl

theorem twin_set1 {α : Type} {xs : List α} {z : α} {k : Nat} (hk : k < xs.length) : (xs.take k ++ List.replicate (xs.length + 3 - k) z).set k xs[k] = xs.take (k + 1) ++ List.replicate (xs.length + 3 - (k + 1)) z := by
 have hl : (xs.take k).length = k := by simp; omega
 rw [List.set_append_right _ _ (by omega), hl, Nat.sub_self, show xs.length + 3 - k = (xs.length + 3 - (k + 1)) + 1 by omega, List.replicate_succ, List.set_cons_zero, List.take_succ_eq_append_getElem hk, List.append_assoc]
 rfl
theorem twin_mid {α : Type} {xs : List α} {z : α} : xs.take xs.length ++ List.replicate (xs.length + 3 - xs.length) z = xs ++ (List.replicate 0 z ++ List.replicate (3 - 0) z) := by
 rw [List.take_length, show xs.length + 3 - xs.length = 3 by omega]; rfl
theorem twin_set2 {α : Type} {xs : List α} {m z : α} {k : Nat} (hk : k < 3) : (xs ++ (List.replicate k m ++ List.replicate (3 - k) z)).set (xs.length + k) m = xs ++ (List.replicate (k + 1) m ++ List.replicate (3 - (k + 1)) z) := by
 rw [List.set_append_right _ _ (by omega), show xs.length + k - xs.length = k by omega, List.set_append_right _ _ (by simp), List.length_replicate, Nat.sub_self, show 3 - k = (3 - (k + 1)) + 1 by omega, List.replicate_succ, List.set_cons_zero, List.replicate_succ', List.append_assoc]
 rfl
theorem ptrAdd_zero (v : Value) (i s : Nat) : ptrAdd (elemP v i s) 0 = elemP v i s := by
 unfold elemP
 split <;> simp [ptrAdd, undef]

theorem twin_Byte (w0 : World) (v : Value) (xs : List UInt8) (mk : UInt8) (hx : SlR w0 v xs) (hl : xs.length ≤ 100000) : Ret Tryz.prog 46 #[v, .int .u8 (mk.toNat : Int)] w0 (fun u w' => ∃ fv, u = cutV fv 0 xs.length (xs.length + 3) (Enc.sz UInt8) ∧ capV fv = xs.length + 3 ∧ New w0 w' fv 5 (xs ++ [mk, mk, mk]) ∧ Bel w0 w') := by
 refine Ret.enter (args := [v, .int .u8 (mk.toNat : Int)]) Tryz.func46 rfl Tryz.ntmps46 Tryz.results46 rfl ?_
 have hS := St.start w0
 refine WC.seq (fun K1 hK1 => ?_)
 refine WC.region ?_
 refine WL.op rfl (opW.assignV (v := .slice none 0 0) rfl ?_)
 refine WL.nil ?_
 refine thenQ_n (hK1 _ _ ?_)
 refine WC.seq (fun K2 hK2 => ?_)
 refine WC.region ?_
 refine WL.op rfl (opW.moveV (v := v) rfl ?_)
 refine WL.op rfl (opW.lenV rfl ((hx.bel hS.old)) ?_)
 refine WL.op rfl (opW.add rfl rfl (wrap_i64 (by omega)) ?_)
 refine WL.op rfl (opW.makeSl (α := UInt8) (n := xs.length + 3) ((0 : UInt8)) (by first | rfl | (rw [enc_vz]; rfl) | (simp only [Account.enc_eq, Account.parts, Role.enc_eq, Role.parts, Instr.enc_eq, Instr.parts, Ask.enc_eq, Ask.parts, Cut.enc_eq, Cut.parts, PairS.enc_eq, PairS.parts, RAsk.enc_eq, RAsk.parts, Header.enc_eq, Header.parts, Lookup.enc_eq, Lookup.parts, Message.enc_eq, Message.parts, Tx.enc_eq, Tx.parts, Budget.enc_eq, Budget.parts, Ready.enc_eq, Ready.parts, Holding.enc_eq, Holding.parts, Outcome.enc_eq, Outcome.parts, Running.enc_eq, Running.parts, StS.enc_eq, StS.parts]; rw [enc_vz]; rfl)) hS rfl rfl (by omega) (by simp only [maxLen]; omega) ?_)
 intro b11 w _ hS
 refine WL.op rfl (opW.assignV (v := (.slice (some ⟨b11, 0, none⟩) (xs.length + 3) (xs.length + 3))) rfl ?_)
 refine WL.nil ?_
 refine thenQ_n (hK2 _ _ ?_)
 refine WC.seq (fun K3 hK3 => ?_)
 refine WC.seq (fun K4 hK4 => ?_)
 refine WC.region ?_
 refine WL.op rfl (opW.assignI rfl ?_)
 refine WL.nil ?_
 refine thenQ_n (hK4 _ _ ?_)
 refine WC.block ?_
 refine WC.loop (fun q f w => ∃ k : Nat, Fits [(0, v), (1, .int .u8 (mk.toNat : Int)), (5, (.slice (some ⟨b11, 0, none⟩) (xs.length + 3) (xs.length + 3))), (6, .int .i64 (k : Int))] f ∧ St w0 [ownE (.slice (some ⟨b11, 0, none⟩) (xs.length + 3) (xs.length + 3)) 5 (xs.take k ++ List.replicate (xs.length + 3 - k) (0 : UInt8))] w ∧ k ≤ xs.length ∧ q = xs.length - k) (xs.length) ?_ ?_
 ·
  exact ⟨0, ⟨rfl, rfl, rfl, rfl, trivial⟩, hS, Nat.zero_le _, rfl⟩
 ·
  rintro q f w ⟨k, hfit, hS, hk0, hm⟩
  refine WC.fits _ hfit (fun g => ?_)
  clear hfit
  refine WC.seq (fun K5 hK5 => ?_)
  refine WC.seq (fun K6 hK6 => ?_)
  refine WC.region ?_
  refine WL.op rfl (opW.moveI rfl ?_)
  refine WL.op rfl (opW.moveV (v := v) rfl ?_)
  refine WL.op rfl (opW.lenV rfl ((hx.bel hS.old)) ?_)
  refine WL.op rfl (opW.lss rfl rfl ?_)
  refine WL.nil ?_
  refine thenQ_n (hK6 _ _ ?_)
  refine WC.cond _ rfl (fun hc0 => ?_) (fun hc0 => ?_)
  ·
   have hr0 := hc0
   try simp only [sq1,sq2,sq3,sq4,sq5,sq6,sq7,sq8,sq9,sq0] at hc0
   have hkl : k < xs.length := by omega
   have hll : (xs.take k ++ List.replicate (xs.length + 3 - k) (0 : UInt8)).length = xs.length + 3 := by simp; omega
   refine WC.skip ?_
   refine thenQ_n (hK5 _ _ ?_)
   refine WC.seq (fun K7 hK7 => ?_)
   refine WC.block ?_
   refine WC.region ?_
   refine WL.op rfl (opW.moveV (v := (.slice (some ⟨b11, 0, none⟩) (xs.length + 3) (xs.length + 3))) rfl ?_)
   refine WL.op rfl (opW.moveI rfl ?_)
   refine WL.op rfl (opW.moveV (v := v) rfl ?_)
   refine WL.op rfl (opW.moveI rfl ?_)
   refine WL.op rfl (opW.idxV rfl ((hx.bel hS.old)) rfl (by omega) ?_)
   refine WL.op rfl (opW.loadV rfl (((hx.bel hS.old).isPt hkl).ld rfl) ?_)
   refine WL.op rfl (opW.idxV rfl (hS.sl (v := (.slice (some ⟨b11, 0, none⟩) (xs.length + 3) (xs.length + 3))) (xs := (xs.take k ++ List.replicate (xs.length + 3 - k) (0 : UInt8))) (by repeat constructor)) rfl (by omega) ?_)
   refine WL.op0 (opW.storeOwn (v := (.slice (some ⟨b11, 0, none⟩) (xs.length + 3) (xs.length + 3))) (u := .int .u8 (xs[k].toNat : Int)) (xs := (xs.take k ++ List.replicate (xs.length + 3 - k) (0 : UInt8))) (i := k) (off := 0) (y' := xs[k]) hS (by repeat constructor) (by omega) (ptrAdd_zero (.slice (some ⟨b11, 0, none⟩) (xs.length + 3) (xs.length + 3)) k (Enc.sz UInt8)).symm rfl (by first | exact Enc.size_eq (α := UInt8) xs[k] | rfl) (by first | exact Nat.le_refl _ | decide) (Enc.one (xs[k])) (spl_all (by rw [Enc.size_eq]; first | exact Enc.size_eq (α := UInt8) xs[k] | rfl)) ?_)
   intro w hS; replace hS := hS _ (by repeat constructor)
   refine WL.nil ?_
   refine blockQ_n ?_
   refine thenQ_n (hK7 _ _ ?_)
   refine WC.region ?_
   refine WL.op rfl (opW.moveI rfl ?_)
   refine WL.op rfl (opW.add rfl rfl (wrap_i64 (by omega)) ?_)
   refine WL.op rfl (opW.assignI rfl ?_)
   refine WL.nil ?_
   refine thenQ_n ?_
   rw [twin_set1 hkl] at hS
   exact ⟨xs.length - (k + 1), by omega, k + 1, ⟨rfl, rfl, rfl, congrArg (Value.int .i64) (by omega), trivial⟩, hS, by omega, rfl⟩
  ·
   have hr0 := hc0
   try simp only [sq1,sq2,sq3,sq4,sq5,sq6,sq7,sq8,sq9,sq0] at hc0
   obtain rfl : k = xs.length := by omega
   rw [twin_mid] at hS
   refine WC.exit ?_
   refine thenQ_e ?_
   refine thenQ_e ?_
   refine blockQ_hit ?_
   refine thenQ_n (hK3 _ _ ?_)
   refine WC.seq (fun K8 hK8 => ?_)
   refine WC.seq (fun K9 hK9 => ?_)
   refine WC.region ?_
   refine WL.op rfl (opW.assignI rfl ?_)
   refine WL.nil ?_
   refine thenQ_n (hK9 _ _ ?_)
   refine WC.block ?_
   refine WC.loop (fun q f w => ∃ k : Nat, Fits [(0, v), (1, .int .u8 (mk.toNat : Int)), (5, (.slice (some ⟨b11, 0, none⟩) (xs.length + 3) (xs.length + 3))), (7, .int .i64 (k : Int))] f ∧ St w0 [ownE (.slice (some ⟨b11, 0, none⟩) (xs.length + 3) (xs.length + 3)) 5 (xs ++ (List.replicate k mk ++ List.replicate (3 - k) (0 : UInt8)))] w ∧ k ≤ 3 ∧ q = 3 - k) (3) ?_ ?_
   ·
    exact ⟨0, ⟨rfl, rfl, rfl, rfl, trivial⟩, hS, Nat.zero_le _, rfl⟩
   ·
    rintro q f w ⟨k, hfit, hS, hk0, hm⟩
    refine WC.fits _ hfit (fun g => ?_)
    clear hfit
    refine WC.seq (fun K10 hK10 => ?_)
    refine WC.seq (fun K11 hK11 => ?_)
    refine WC.region ?_
    refine WL.op rfl (opW.moveI rfl ?_)
    refine WL.op rfl (opW.lss rfl rfl ?_)
    refine WL.nil ?_
    refine thenQ_n (hK11 _ _ ?_)
    refine WC.cond _ rfl (fun hc1 => ?_) (fun hc1 => ?_)
    ·
     have hr1 := hc1
     try simp only [sq1,sq2,sq3,sq4,sq5,sq6,sq7,sq8,sq9,sq0] at hc1
     have hkl : k < 3 := by omega
     have hll : (xs ++ (List.replicate k mk ++ List.replicate (3 - k) (0 : UInt8))).length = xs.length + 3 := by simp; omega
     refine WC.skip ?_
     refine thenQ_n (hK10 _ _ ?_)
     refine WC.seq (fun K12 hK12 => ?_)
     refine WC.block ?_
     refine WC.region ?_
     refine WL.op rfl (opW.moveV (v := (.slice (some ⟨b11, 0, none⟩) (xs.length + 3) (xs.length + 3))) rfl ?_)
     refine WL.op rfl (opW.moveV (v := v) rfl ?_)
     refine WL.op rfl (opW.lenV rfl ((hx.bel hS.old)) ?_)
     refine WL.op rfl (opW.moveI rfl ?_)
     refine WL.op rfl (opW.add rfl rfl (wrap_i64 (by omega)) ?_)
     refine WL.op rfl (opW.moveI rfl ?_)
     refine WL.op rfl (opW.idxV rfl (hS.sl (v := (.slice (some ⟨b11, 0, none⟩) (xs.length + 3) (xs.length + 3))) (xs := (xs ++ (List.replicate k mk ++ List.replicate (3 - k) (0 : UInt8)))) (by repeat constructor)) rfl (by omega) ?_)
     refine WL.op0 (opW.storeOwn (v := (.slice (some ⟨b11, 0, none⟩) (xs.length + 3) (xs.length + 3))) (u := .int .u8 (mk.toNat : Int)) (xs := (xs ++ (List.replicate k mk ++ List.replicate (3 - k) (0 : UInt8)))) (i := xs.length + k) (off := 0) (y' := mk) hS (by repeat constructor) (by omega) (ptrAdd_zero (.slice (some ⟨b11, 0, none⟩) (xs.length + 3) (xs.length + 3)) (xs.length + k) (Enc.sz UInt8)).symm rfl (by first | exact Enc.size_eq (α := UInt8) mk | rfl) (by first | exact Nat.le_refl _ | decide) (Enc.one mk) (spl_all (by rw [Enc.size_eq]; first | exact Enc.size_eq (α := UInt8) mk | rfl)) ?_)
     intro w hS; replace hS := hS _ (by repeat constructor)
     refine WL.nil ?_
     refine blockQ_n ?_
     refine thenQ_n (hK12 _ _ ?_)
     refine WC.region ?_
     refine WL.op rfl (opW.moveI rfl ?_)
     refine WL.op rfl (opW.add rfl rfl (wrap_i64 (by omega)) ?_)
     refine WL.op rfl (opW.assignI rfl ?_)
     refine WL.nil ?_
     refine thenQ_n ?_
     rw [twin_set2 hkl] at hS
     exact ⟨3 - (k + 1), by omega, k + 1, ⟨rfl, rfl, rfl, congrArg (Value.int .i64) (by omega), trivial⟩, hS, by omega, rfl⟩
    ·
     have hr1 := hc1
     try simp only [sq1,sq2,sq3,sq4,sq5,sq6,sq7,sq8,sq9,sq0] at hc1
     obtain rfl : k = 3 := by omega
     have hS3 : St w0 [ownE (.slice (some ⟨b11, 0, none⟩) (xs.length + 3) (xs.length + 3)) 5 (xs ++ [mk, mk, mk])] w := hS
     clear hS
     have hS := hS3
     refine WC.exit ?_
     refine thenQ_e ?_
     refine thenQ_e ?_
     refine blockQ_hit ?_
     refine thenQ_n (hK8 _ _ ?_)
     refine WC.seq (fun K13 hK13 => ?_)
     refine WC.region ?_
     refine WL.op rfl (opW.moveV (v := (.slice (some ⟨b11, 0, none⟩) (xs.length + 3) (xs.length + 3))) rfl ?_)
     refine WL.op rfl (opW.moveV (v := v) rfl ?_)
     refine WL.op rfl (opW.lenV rfl ((hx.bel hS.old)) ?_)
     refine WL.op rfl (opW.cutS (l := 0) (h' := xs.length) (m := xs.length + 3) (hS.sl (v := (.slice (some ⟨b11, 0, none⟩) (xs.length + 3) (xs.length + 3))) (xs := xs ++ [mk, mk, mk]) (by repeat constructor)) ⟨rfl, Nat.le_refl _⟩ ⟨⟨_, rfl⟩, by omega⟩ ⟨rfl, Nat.zero_le _⟩ ?_)
     refine WL.op rfl (opW.assignV (v := (cutV (.slice (some ⟨b11, 0, none⟩) (xs.length + 3) (xs.length + 3)) 0 xs.length (xs.length + 3) (Enc.sz UInt8))) rfl ?_)
     refine WL.nil ?_
     refine thenQ_n (hK13 _ _ ?_)
     refine WC.ret ?_
     refine bodyQ_ret (.tmpV (v := cutV (.slice (some ⟨b11, 0, none⟩) (xs.length + 3) (xs.length + 3)) 0 xs.length (xs.length + 3) (Enc.sz UInt8)) rfl .nil) ?_
     exact ⟨(.slice (some ⟨b11, 0, none⟩) (xs.length + 3) (xs.length + 3)), rfl, rfl, hS.own_new (by repeat constructor), hS.old⟩

theorem left_Byte (w0 : World) (fv u : Value) (xs : List UInt8) (mk : UInt8) (hcf : capV fv = xs.length + 3) (hf : SlR w0 fv (xs ++ [mk, mk, mk])) (hu : SlR w0 u xs) : Ret Tryz.prog 64 #[(cutV fv 0 xs.length (xs.length + 3) (Enc.sz UInt8)), u, .int .u8 (mk.toNat : Int)] w0 (fun r w' => r = .bool true ∧ Bel w0 w') := by
 refine Ret.enter (args := [(cutV fv 0 xs.length (xs.length + 3) (Enc.sz UInt8)), u, .int .u8 (mk.toNat : Int)]) Tryz.func64 rfl Tryz.ntmps64 Tryz.results64 rfl ?_
 have hS := St.start w0
 have hlx : (xs ++ [mk, mk, mk]).length = xs.length + 3 := by simp
 have ht : SlR w0 (cutV fv 0 xs.length (xs.length + 3) (Enc.sz UInt8)) xs := by
  have := hf.head (m := xs.length + 3) (by omega) (by omega)
  exact this
 have hct : capV (cutV fv 0 xs.length (xs.length + 3) (Enc.sz UInt8)) = xs.length + 3 := by obtain ⟨a, c, h⟩ := hf.eq; rw [h]; simp [cutV, capV]
 have hr : SlR w0 (cutV (cutV fv 0 xs.length (xs.length + 3) (Enc.sz UInt8)) 0 (xs.length + 3) (xs.length + 3) (Enc.sz UInt8)) (xs ++ [mk, mk, mk]) := by
  have := hf.front (k := xs.length + 3) (m := xs.length + 3) (by omega) (Nat.le_refl _) (by omega)
  rw [List.take_of_length_le (by omega)] at this
  rw [cutV_cut0]
  exact this
 have hle := hf.le
 rw [hlx] at hle
 simp only [maxLen] at hle
 refine WC.seq (fun K1 hK1 => ?_)
 refine WC.region ?_
 refine WL.op rfl (opW.assignB rfl ?_)
 refine WL.nil ?_
 refine thenQ_n (hK1 _ _ ?_)
 refine WC.seq (fun K2 hK2 => ?_)
 refine WC.seq (fun K3 hK3 => ?_)
 refine WC.region ?_
 refine WL.op rfl (opW.moveV (v := (cutV fv 0 xs.length (xs.length + 3) (Enc.sz UInt8))) rfl ?_)
 refine WL.op rfl (opW.moveV (v := u) rfl ?_)
 refine WL.op rfl (opW.call (same_b _ _ _ xs xs (ht.bel hS.old) (hu.bel hS.old)) rfl ?_)
 rintro _ w ⟨rfl, hw⟩; replace hS := hS.bel hw
 rw [decide_eq_true (rfl : xs = xs)]
 refine WL.op rfl (opW.not rfl ?_)
 refine WL.op rfl (opW.moveB rfl ?_)
 refine WL.gT 13 rfl rfl rfl (WL.op rfl (opW.moveV (v := (cutV fv 0 xs.length (xs.length + 3) (Enc.sz UInt8))) rfl ?_))
 refine WL.gT 13 rfl rfl rfl (WL.op rfl (opW.cap (v := (cutV fv 0 xs.length (xs.length + 3) (Enc.sz UInt8))) rfl (ht.bel hS.old) ?_))
 refine WL.gT 13 rfl rfl rfl (WL.op rfl (opW.moveV (v := u) rfl ?_))
 refine WL.gT 13 rfl rfl rfl (WL.op rfl (opW.lenV rfl ((hu.bel hS.old)) ?_))
 refine WL.gT 13 rfl rfl rfl (WL.op rfl (opW.add rfl rfl (wrap_i64 (by omega)) ?_))
 refine WL.gT 13 rfl rfl rfl (WL.op rfl (opW.lss rfl rfl ?_))
 refine WL.op rfl (opW.pickT rfl rfl ?_)
 refine WL.nil ?_
 refine thenQ_n (hK3 _ _ ?_)
 refine WC.cond _ rfl (fun hc0 => ?_) (fun hc0 => ?_)
 ·
  have hr0 := hc0
  try simp only [sq1,sq2,sq3,sq4,sq5,sq6,sq7,sq8,sq9,sq0] at hc0
  simp [hct] at hr0
 ·
  have hr0 := hc0
  try simp only [sq1,sq2,sq3,sq4,sq5,sq6,sq7,sq8,sq9,sq0] at hc0
  refine WC.skip ?_
  refine thenQ_n (hK2 _ _ ?_)
  refine WC.seq (fun K4 hK4 => ?_)
  refine WC.region ?_
  refine WL.op rfl (opW.moveV (v := (cutV fv 0 xs.length (xs.length + 3) (Enc.sz UInt8))) rfl ?_)
  refine WL.op rfl (opW.moveV (v := u) rfl ?_)
  refine WL.op rfl (opW.lenV rfl ((hu.bel hS.old)) ?_)
  refine WL.op rfl (opW.add rfl rfl (wrap_i64 (by omega)) ?_)
  refine WL.op rfl (opW.cutS (l := 0) (h' := xs.length + 3) (m := xs.length + 3) (ht.bel hS.old) ⟨hct.symm, Nat.le_of_eq hct.symm⟩ ⟨⟨_, rfl⟩, Nat.le_refl _⟩ ⟨rfl, Nat.zero_le _⟩ ?_)
  refine WL.op rfl (opW.assignV (v := (cutV (cutV fv 0 xs.length (xs.length + 3) (Enc.sz UInt8)) 0 (xs.length + 3) (xs.length + 3) (Enc.sz UInt8))) rfl ?_)
  refine WL.nil ?_
  refine thenQ_n (hK4 _ _ ?_)
  refine WC.seq (fun K5 hK5 => ?_)
  refine WC.seq (fun K6 hK6 => ?_)
  refine WC.region ?_
  refine WL.op rfl (opW.assignI rfl ?_)
  refine WL.nil ?_
  refine thenQ_n (hK6 _ _ ?_)
  refine WC.block ?_
  refine WC.loop (fun q f w => ∃ k : Nat, Fits [(1, u), (2, .int .u8 (mk.toNat : Int)), (7, (cutV (cutV fv 0 xs.length (xs.length + 3) (Enc.sz UInt8)) 0 (xs.length + 3) (xs.length + 3) (Enc.sz UInt8))), (8, .int .i64 (k : Int))] f ∧ St w0 [] w ∧ k ≤ 3 ∧ q = 3 - k) (3) ?_ ?_
  ·
   exact ⟨0, ⟨rfl, rfl, rfl, rfl, trivial⟩, hS, Nat.zero_le _, rfl⟩
  ·
   rintro q f w ⟨k, hfit, hS, hk0, hm⟩
   refine WC.fits _ hfit (fun g => ?_)
   clear hfit
   refine WC.seq (fun K7 hK7 => ?_)
   refine WC.seq (fun K8 hK8 => ?_)
   refine WC.region ?_
   refine WL.op rfl (opW.moveI rfl ?_)
   refine WL.op rfl (opW.lss rfl rfl ?_)
   refine WL.nil ?_
   refine thenQ_n (hK8 _ _ ?_)
   refine WC.cond _ rfl (fun hc1 => ?_) (fun hc1 => ?_)
   ·
    have hr1 := hc1
    try simp only [sq1,sq2,sq3,sq4,sq5,sq6,sq7,sq8,sq9,sq0] at hc1
    have hkl : k < 3 := by omega
    have hkx : xs.length + k < (xs ++ [mk, mk, mk]).length := by omega
    refine WC.skip ?_
    refine thenQ_n (hK7 _ _ ?_)
    refine WC.seq (fun K9 hK9 => ?_)
    refine WC.block ?_
    refine WC.seq (fun K10 hK10 => ?_)
    refine WC.region ?_
    refine WL.op rfl (opW.moveV (v := (cutV (cutV fv 0 xs.length (xs.length + 3) (Enc.sz UInt8)) 0 (xs.length + 3) (xs.length + 3) (Enc.sz UInt8))) rfl ?_)
    refine WL.op rfl (opW.moveV (v := u) rfl ?_)
    refine WL.op rfl (opW.lenV rfl ((hu.bel hS.old)) ?_)
    refine WL.op rfl (opW.moveI rfl ?_)
    refine WL.op rfl (opW.add rfl rfl (wrap_i64 (by omega)) ?_)
    refine WL.op rfl (opW.idxV rfl ((hr.bel hS.old)) rfl (by omega) ?_)
    refine WL.op rfl (opW.loadV rfl (((hr.bel hS.old).isPt (i := xs.length + k) hkx).ld rfl) ?_)
    refine WL.op rfl (opW.moveI rfl ?_)
    refine WL.op rfl (opW.neq rfl rfl ?_)
    refine WL.nil ?_
    refine thenQ_n (hK10 _ _ ?_)
    refine WC.cond _ rfl (fun hc2 => ?_) (fun hc2 => ?_)
    ·
     have hr2 := hc2
     try simp only [sq1,sq2,sq3,sq4,sq5,sq6,sq7,sq8,sq9,sq0] at hc2
     have hg : (xs ++ [mk, mk, mk])[xs.length + k] = mk := by
      rw [List.getElem_append_right (by omega)]
      rcases (by omega : k = 0 ∨ k = 1 ∨ k = 2) with rfl | rfl | rfl <;> simp
     rw [hg] at hr2
     simp at hr2
    ·
     have hr2 := hc2
     try simp only [sq1,sq2,sq3,sq4,sq5,sq6,sq7,sq8,sq9,sq0] at hc2
     refine WC.skip ?_
     refine blockQ_n ?_
     refine thenQ_n (hK9 _ _ ?_)
     refine WC.region ?_
     refine WL.op rfl (opW.moveI rfl ?_)
     refine WL.op rfl (opW.add rfl rfl (wrap_i64 (by omega)) ?_)
     refine WL.op rfl (opW.assignI rfl ?_)
     refine WL.nil ?_
     refine thenQ_n ?_
     exact ⟨3 - (k + 1), by omega, k + 1, ⟨rfl, rfl, rfl, congrArg (Value.int .i64) (by omega), trivial⟩, hS, by omega, rfl⟩
   ·
    have hr1 := hc1
    try simp only [sq1,sq2,sq3,sq4,sq5,sq6,sq7,sq8,sq9,sq0] at hc1
    refine WC.exit ?_
    refine thenQ_e ?_
    refine thenQ_e ?_
    refine blockQ_hit ?_
    refine thenQ_n (hK5 _ _ ?_)
    refine WC.seq (fun K11 hK11 => ?_)
    refine WC.region ?_
    refine WL.op rfl (opW.assignB rfl ?_)
    refine WL.nil ?_
    refine thenQ_n (hK11 _ _ ?_)
    refine WC.ret ?_
    refine bodyQ_ret (.tmpB rfl .nil) ?_
    exact ⟨rfl, hS.old⟩

theorem twinBytes_ok (w0 : World) (v : Value) (xs : List UInt8) (hx : SlR w0 v xs) (hl : xs.length ≤ 100000) : Ret Tryz.prog 19 #[v] w0 (fun u w' => ∃ fv, u = cutV fv 0 xs.length (xs.length + 3) (Enc.sz UInt8) ∧ capV fv = xs.length + 3 ∧ New w0 w' fv 5 (xs ++ [165, 165, 165]) ∧ Bel w0 w') := by
 refine Ret.enter (args := [v]) Tryz.func19 rfl Tryz.ntmps19 Tryz.results19 rfl ?_
 have hS := St.start w0
 refine WC.seq (fun K1 hK1 => ?_)
 refine WC.region ?_
 refine WL.op rfl (opW.assignV (v := .slice none 0 0) rfl ?_)
 refine WL.nil ?_
 refine thenQ_n (hK1 _ _ ?_)
 refine WC.seq (fun K2 hK2 => ?_)
 refine WC.region ?_
 refine WL.op rfl (opW.moveV (v := v) rfl ?_)
 refine WL.op rfl (opW.call (twin_Byte _ v xs 165 (hx.bel hS.old) hl) rfl ?_)
 rintro _ w ⟨fv, rfl, hc, hn, hw⟩
 replace hS := hS.newOwn hw hn.1 hn.2
 refine WL.op rfl (opW.assignV (v := (cutV fv 0 xs.length (xs.length + 3) (Enc.sz UInt8))) rfl ?_)
 refine WL.nil ?_
 refine thenQ_n (hK2 _ _ ?_)
 refine WC.ret ?_
 refine bodyQ_ret (.tmpV (v := (cutV fv 0 xs.length (xs.length + 3) (Enc.sz UInt8))) rfl .nil) ?_
 exact ⟨fv, rfl, hc, hS.own_new (by repeat constructor), hS.old⟩

theorem leftBytes_ok (w0 : World) (fv u : Value) (xs : List UInt8) (hcf : capV fv = xs.length + 3) (hf : SlR w0 fv (xs ++ [165, 165, 165])) (hu : SlR w0 u xs) : Ret Tryz.prog 36 #[(cutV fv 0 xs.length (xs.length + 3) (Enc.sz UInt8)), u] w0 (fun r w' => r = .bool true ∧ Bel w0 w') := by
 refine Ret.enter (args := [(cutV fv 0 xs.length (xs.length + 3) (Enc.sz UInt8)), u]) Tryz.func36 rfl Tryz.ntmps36 Tryz.results36 rfl ?_
 have hS := St.start w0
 refine WC.seq (fun K1 hK1 => ?_)
 refine WC.region ?_
 refine WL.op rfl (opW.assignB rfl ?_)
 refine WL.nil ?_
 refine thenQ_n (hK1 _ _ ?_)
 refine WC.seq (fun K2 hK2 => ?_)
 refine WC.region ?_
 refine WL.op rfl (opW.moveV (v := (cutV fv 0 xs.length (xs.length + 3) (Enc.sz UInt8))) rfl ?_)
 refine WL.op rfl (opW.moveV (v := u) rfl ?_)
 refine WL.op rfl (opW.call (left_Byte _ fv u xs 165 hcf (hf.bel hS.old) (hu.bel hS.old)) rfl ?_)
 rintro _ w ⟨rfl, hw⟩; replace hS := hS.bel hw
 refine WL.op rfl (opW.assignB rfl ?_)
 refine WL.nil ?_
 refine thenQ_n (hK2 _ _ ?_)
 refine WC.ret ?_
 refine bodyQ_ret (.tmpB rfl .nil) ?_
 exact ⟨rfl, hS.old⟩

@[irreducible] def markK : Vector UInt8 32 := ((vz 32).set 0 165).set 1 90

theorem markKey_ok (w0 : World) : Ret Tryz.prog 72 #[] w0 (fun u w' => u = .agg (Enc.enc markK) ∧ Bel w0 w') := by
 refine Ret.enter (args := []) Tryz.func72 rfl Tryz.ntmps72 Tryz.results72 rfl ?_
 have hS := St.start w0
 refine WC.seq (fun K1 hK1 => ?_)
 refine WC.region ?_
 refine WL.op rfl (opW.allocA hS ?_)
 intro b0 w _ hS
 refine WL.nil ?_
 refine thenQ_n (hK1 _ _ ?_)
 refine WC.seq (fun K2 hK2 => ?_)
 refine WC.region ?_
 refine WL.op rfl (opW.buildVec (k := markK) (by first | rfl | (simp only [sysK, az, markK, enc_vset, enc_vz]; rfl)) (by intro p hp; first | (exfalso; simp at hp; done) | (simp only [List.map_cons, List.map_nil, List.mem_cons, List.not_mem_nil, or_false] at hp; rcases hp with rfl | rfl | rfl | rfl <;> exact ⟨by simp, rfl⟩)) ?_)
 refine WL.op0 (opW.storeE hS rfl rfl (by repeat constructor) (by first | rfl | exact Enc.size_eq _) ?_)
 intro w hS; replace hS := hS _ (by repeat constructor)
 refine WL.nil ?_
 refine thenQ_n (hK2 _ _ ?_)
 refine WC.ret ?_
 refine bodyQ_ret (.cell (hS.ldA (by repeat constructor) (Enc.size_eq markK)) .nil) ?_
 exact ⟨rfl, hS.old⟩

theorem twin_Key (w0 : World) (v : Value) (xs : List (Vector UInt8 32)) (mk : (Vector UInt8 32)) (hx : SlR w0 v xs) (hl : xs.length ≤ 100000) : Ret Tryz.prog 84 #[v, .agg (Enc.enc mk)] w0 (fun u w' => ∃ fv, u = cutV fv 0 xs.length (xs.length + 3) (Enc.sz (Vector UInt8 32)) ∧ capV fv = xs.length + 3 ∧ New w0 w' fv 62 (xs ++ [mk, mk, mk]) ∧ Bel w0 w') := by
 refine Ret.enter (args := [v, .agg (Enc.enc mk)]) Tryz.func84 rfl Tryz.ntmps84 Tryz.results84 rfl ?_
 have hS := St.start w0
 refine WC.seq (fun K1 hK1 => ?_)
 refine WC.region ?_
 refine WL.op rfl (opW.boxA hS rfl ?_)
 intro b3 w _ hS
 refine WL.op rfl (opW.assignV (v := .slice none 0 0) rfl ?_)
 refine WL.nil ?_
 refine thenQ_n (hK1 _ _ ?_)
 refine WC.seq (fun K2 hK2 => ?_)
 refine WC.region ?_
 refine WL.op rfl (opW.moveV (v := v) rfl ?_)
 refine WL.op rfl (opW.lenV rfl ((hx.bel hS.old)) ?_)
 refine WL.op rfl (opW.add rfl rfl (wrap_i64 (by omega)) ?_)
 refine WL.op rfl (opW.makeSl (α := (Vector UInt8 32)) (n := xs.length + 3) ((vz 32)) (by first | rfl | (rw [enc_vz]; rfl) | (simp only [Account.enc_eq, Account.parts, Role.enc_eq, Role.parts, Instr.enc_eq, Instr.parts, Ask.enc_eq, Ask.parts, Cut.enc_eq, Cut.parts, PairS.enc_eq, PairS.parts, RAsk.enc_eq, RAsk.parts, Header.enc_eq, Header.parts, Lookup.enc_eq, Lookup.parts, Message.enc_eq, Message.parts, Tx.enc_eq, Tx.parts, Budget.enc_eq, Budget.parts, Ready.enc_eq, Ready.parts, Holding.enc_eq, Holding.parts, Outcome.enc_eq, Outcome.parts, Running.enc_eq, Running.parts, StS.enc_eq, StS.parts]; rw [enc_vz]; rfl)) hS rfl rfl (by omega) (by simp only [maxLen]; omega) ?_)
 intro b11 w _ hS
 refine WL.op rfl (opW.assignV (v := (.slice (some ⟨b11, 0, none⟩) (xs.length + 3) (xs.length + 3))) rfl ?_)
 refine WL.nil ?_
 refine thenQ_n (hK2 _ _ ?_)
 refine WC.seq (fun K3 hK3 => ?_)
 refine WC.seq (fun K4 hK4 => ?_)
 refine WC.region ?_
 refine WL.op rfl (opW.assignI rfl ?_)
 refine WL.nil ?_
 refine thenQ_n (hK4 _ _ ?_)
 refine WC.block ?_
 refine WC.loop (fun q f w => ∃ k : Nat, Fits [(0, v), (3, .pointer (some ⟨b3, 0, none⟩)), (5, (.slice (some ⟨b11, 0, none⟩) (xs.length + 3) (xs.length + 3))), (6, .int .i64 (k : Int))] f ∧ St w0 [ownE (.slice (some ⟨b11, 0, none⟩) (xs.length + 3) (xs.length + 3)) 62 (xs.take k ++ List.replicate (xs.length + 3 - k) (vz 32)), blkE b3 (Enc.enc mk) 62] w ∧ k ≤ xs.length ∧ q = xs.length - k) (xs.length) ?_ ?_
 ·
  exact ⟨0, ⟨rfl, rfl, rfl, rfl, trivial⟩, hS, Nat.zero_le _, rfl⟩
 ·
  rintro q f w ⟨k, hfit, hS, hk0, hm⟩
  refine WC.fits _ hfit (fun g => ?_)
  clear hfit
  refine WC.seq (fun K5 hK5 => ?_)
  refine WC.seq (fun K6 hK6 => ?_)
  refine WC.region ?_
  refine WL.op rfl (opW.moveI rfl ?_)
  refine WL.op rfl (opW.moveV (v := v) rfl ?_)
  refine WL.op rfl (opW.lenV rfl ((hx.bel hS.old)) ?_)
  refine WL.op rfl (opW.lss rfl rfl ?_)
  refine WL.nil ?_
  refine thenQ_n (hK6 _ _ ?_)
  refine WC.cond _ rfl (fun hc0 => ?_) (fun hc0 => ?_)
  ·
   have hr0 := hc0
   try simp only [sq1,sq2,sq3,sq4,sq5,sq6,sq7,sq8,sq9,sq0] at hc0
   have hkl : k < xs.length := by omega
   have hll : (xs.take k ++ List.replicate (xs.length + 3 - k) (vz 32)).length = xs.length + 3 := by simp; omega
   refine WC.skip ?_
   refine thenQ_n (hK5 _ _ ?_)
   refine WC.seq (fun K7 hK7 => ?_)
   refine WC.block ?_
   refine WC.region ?_
   refine WL.op rfl (opW.moveV (v := (.slice (some ⟨b11, 0, none⟩) (xs.length + 3) (xs.length + 3))) rfl ?_)
   refine WL.op rfl (opW.moveI rfl ?_)
   refine WL.op rfl (opW.moveV (v := v) rfl ?_)
   refine WL.op rfl (opW.moveI rfl ?_)
   refine WL.op rfl (opW.idxV rfl ((hx.bel hS.old)) rfl (by omega) ?_)
   refine WL.op rfl (opW.loadV rfl (((hx.bel hS.old).isPt hkl).ldA (Enc.size_eq _)) ?_)
   refine WL.op rfl (opW.idxV rfl (hS.sl (v := (.slice (some ⟨b11, 0, none⟩) (xs.length + 3) (xs.length + 3))) (xs := (xs.take k ++ List.replicate (xs.length + 3 - k) (vz 32))) (by repeat constructor)) rfl (by omega) ?_)
   refine WL.op0 (opW.storeOwn (v := (.slice (some ⟨b11, 0, none⟩) (xs.length + 3) (xs.length + 3))) (u := .agg (Enc.enc xs[k])) (xs := (xs.take k ++ List.replicate (xs.length + 3 - k) (vz 32))) (i := k) (off := 0) (y' := xs[k]) hS (by repeat constructor) (by omega) (ptrAdd_zero (.slice (some ⟨b11, 0, none⟩) (xs.length + 3) (xs.length + 3)) k (Enc.sz (Vector UInt8 32))).symm rfl (by first | exact Enc.size_eq (α := (Vector UInt8 32)) xs[k] | rfl) (by first | exact Nat.le_refl _ | decide) (Enc.one (xs[k])) (spl_all (by rw [Enc.size_eq]; first | exact Enc.size_eq (α := (Vector UInt8 32)) xs[k] | rfl)) ?_)
   intro w hS; replace hS := hS _ (by repeat constructor)
   refine WL.nil ?_
   refine blockQ_n ?_
   refine thenQ_n (hK7 _ _ ?_)
   refine WC.region ?_
   refine WL.op rfl (opW.moveI rfl ?_)
   refine WL.op rfl (opW.add rfl rfl (wrap_i64 (by omega)) ?_)
   refine WL.op rfl (opW.assignI rfl ?_)
   refine WL.nil ?_
   refine thenQ_n ?_
   rw [twin_set1 hkl] at hS
   exact ⟨xs.length - (k + 1), by omega, k + 1, ⟨rfl, rfl, rfl, congrArg (Value.int .i64) (by omega), trivial⟩, hS, by omega, rfl⟩
  ·
   have hr0 := hc0
   try simp only [sq1,sq2,sq3,sq4,sq5,sq6,sq7,sq8,sq9,sq0] at hc0
   obtain rfl : k = xs.length := by omega
   rw [twin_mid] at hS
   refine WC.exit ?_
   refine thenQ_e ?_
   refine thenQ_e ?_
   refine blockQ_hit ?_
   refine thenQ_n (hK3 _ _ ?_)
   refine WC.seq (fun K8 hK8 => ?_)
   refine WC.seq (fun K9 hK9 => ?_)
   refine WC.region ?_
   refine WL.op rfl (opW.assignI rfl ?_)
   refine WL.nil ?_
   refine thenQ_n (hK9 _ _ ?_)
   refine WC.block ?_
   refine WC.loop (fun q f w => ∃ k : Nat, Fits [(0, v), (3, .pointer (some ⟨b3, 0, none⟩)), (5, (.slice (some ⟨b11, 0, none⟩) (xs.length + 3) (xs.length + 3))), (7, .int .i64 (k : Int))] f ∧ St w0 [ownE (.slice (some ⟨b11, 0, none⟩) (xs.length + 3) (xs.length + 3)) 62 (xs ++ (List.replicate k mk ++ List.replicate (3 - k) (vz 32))), blkE b3 (Enc.enc mk) 62] w ∧ k ≤ 3 ∧ q = 3 - k) (3) ?_ ?_
   ·
    exact ⟨0, ⟨rfl, rfl, rfl, rfl, trivial⟩, hS, Nat.zero_le _, rfl⟩
   ·
    rintro q f w ⟨k, hfit, hS, hk0, hm⟩
    refine WC.fits _ hfit (fun g => ?_)
    clear hfit
    refine WC.seq (fun K10 hK10 => ?_)
    refine WC.seq (fun K11 hK11 => ?_)
    refine WC.region ?_
    refine WL.op rfl (opW.moveI rfl ?_)
    refine WL.op rfl (opW.lss rfl rfl ?_)
    refine WL.nil ?_
    refine thenQ_n (hK11 _ _ ?_)
    refine WC.cond _ rfl (fun hc1 => ?_) (fun hc1 => ?_)
    ·
     have hr1 := hc1
     try simp only [sq1,sq2,sq3,sq4,sq5,sq6,sq7,sq8,sq9,sq0] at hc1
     have hkl : k < 3 := by omega
     have hll : (xs ++ (List.replicate k mk ++ List.replicate (3 - k) (vz 32))).length = xs.length + 3 := by simp; omega
     refine WC.skip ?_
     refine thenQ_n (hK10 _ _ ?_)
     refine WC.seq (fun K12 hK12 => ?_)
     refine WC.block ?_
     refine WC.region ?_
     refine WL.op rfl (opW.moveV (v := (.slice (some ⟨b11, 0, none⟩) (xs.length + 3) (xs.length + 3))) rfl ?_)
     refine WL.op rfl (opW.moveV (v := v) rfl ?_)
     refine WL.op rfl (opW.lenV rfl ((hx.bel hS.old)) ?_)
     refine WL.op rfl (opW.moveI rfl ?_)
     refine WL.op rfl (opW.add rfl rfl (wrap_i64 (by omega)) ?_)
     refine WL.op rfl (opW.loadV rfl (hS.ldA (cs := Enc.enc mk) (by repeat constructor) (Enc.size_eq _)) ?_)
     refine WL.op rfl (opW.idxV rfl (hS.sl (v := (.slice (some ⟨b11, 0, none⟩) (xs.length + 3) (xs.length + 3))) (xs := (xs ++ (List.replicate k mk ++ List.replicate (3 - k) (vz 32)))) (by repeat constructor)) rfl (by omega) ?_)
     refine WL.op0 (opW.storeOwn (v := (.slice (some ⟨b11, 0, none⟩) (xs.length + 3) (xs.length + 3))) (u := .agg (Enc.enc mk)) (xs := (xs ++ (List.replicate k mk ++ List.replicate (3 - k) (vz 32)))) (i := xs.length + k) (off := 0) (y' := mk) hS (by repeat constructor) (by omega) (ptrAdd_zero (.slice (some ⟨b11, 0, none⟩) (xs.length + 3) (xs.length + 3)) (xs.length + k) (Enc.sz (Vector UInt8 32))).symm rfl (by first | exact Enc.size_eq (α := (Vector UInt8 32)) mk | rfl) (by first | exact Nat.le_refl _ | decide) (Enc.one mk) (spl_all (by rw [Enc.size_eq]; first | exact Enc.size_eq (α := (Vector UInt8 32)) mk | rfl)) ?_)
     intro w hS; replace hS := hS _ (by repeat constructor)
     refine WL.nil ?_
     refine blockQ_n ?_
     refine thenQ_n (hK12 _ _ ?_)
     refine WC.region ?_
     refine WL.op rfl (opW.moveI rfl ?_)
     refine WL.op rfl (opW.add rfl rfl (wrap_i64 (by omega)) ?_)
     refine WL.op rfl (opW.assignI rfl ?_)
     refine WL.nil ?_
     refine thenQ_n ?_
     rw [twin_set2 hkl] at hS
     exact ⟨3 - (k + 1), by omega, k + 1, ⟨rfl, rfl, rfl, congrArg (Value.int .i64) (by omega), trivial⟩, hS, by omega, rfl⟩
    ·
     have hr1 := hc1
     try simp only [sq1,sq2,sq3,sq4,sq5,sq6,sq7,sq8,sq9,sq0] at hc1
     obtain rfl : k = 3 := by omega
     have hS3 : St w0 [ownE (.slice (some ⟨b11, 0, none⟩) (xs.length + 3) (xs.length + 3)) 62 (xs ++ [mk, mk, mk]), blkE b3 (Enc.enc mk) 62] w := hS
     clear hS
     have hS := hS3
     refine WC.exit ?_
     refine thenQ_e ?_
     refine thenQ_e ?_
     refine blockQ_hit ?_
     refine thenQ_n (hK8 _ _ ?_)
     refine WC.seq (fun K13 hK13 => ?_)
     refine WC.region ?_
     refine WL.op rfl (opW.moveV (v := (.slice (some ⟨b11, 0, none⟩) (xs.length + 3) (xs.length + 3))) rfl ?_)
     refine WL.op rfl (opW.moveV (v := v) rfl ?_)
     refine WL.op rfl (opW.lenV rfl ((hx.bel hS.old)) ?_)
     refine WL.op rfl (opW.cutS (l := 0) (h' := xs.length) (m := xs.length + 3) (hS.sl (v := (.slice (some ⟨b11, 0, none⟩) (xs.length + 3) (xs.length + 3))) (xs := xs ++ [mk, mk, mk]) (by repeat constructor)) ⟨rfl, Nat.le_refl _⟩ ⟨⟨_, rfl⟩, by omega⟩ ⟨rfl, Nat.zero_le _⟩ ?_)
     refine WL.op rfl (opW.assignV (v := (cutV (.slice (some ⟨b11, 0, none⟩) (xs.length + 3) (xs.length + 3)) 0 xs.length (xs.length + 3) (Enc.sz (Vector UInt8 32)))) rfl ?_)
     refine WL.nil ?_
     refine thenQ_n (hK13 _ _ ?_)
     refine WC.ret ?_
     refine bodyQ_ret (.tmpV (v := cutV (.slice (some ⟨b11, 0, none⟩) (xs.length + 3) (xs.length + 3)) 0 xs.length (xs.length + 3) (Enc.sz (Vector UInt8 32))) rfl .nil) ?_
     exact ⟨(.slice (some ⟨b11, 0, none⟩) (xs.length + 3) (xs.length + 3)), rfl, rfl, hS.own_new (by repeat constructor), hS.old⟩

theorem left_Key (w0 : World) (fv u : Value) (xs : List (Vector UInt8 32)) (mk : (Vector UInt8 32)) (hcf : capV fv = xs.length + 3) (hf : SlR w0 fv (xs ++ [mk, mk, mk])) (hu : SlR w0 u xs) : Ret Tryz.prog 90 #[(cutV fv 0 xs.length (xs.length + 3) (Enc.sz (Vector UInt8 32))), u, .agg (Enc.enc mk)] w0 (fun r w' => r = .bool true ∧ Bel w0 w') := by
 refine Ret.enter (args := [(cutV fv 0 xs.length (xs.length + 3) (Enc.sz (Vector UInt8 32))), u, .agg (Enc.enc mk)]) Tryz.func90 rfl Tryz.ntmps90 Tryz.results90 rfl ?_
 have hS := St.start w0
 have hlx : (xs ++ [mk, mk, mk]).length = xs.length + 3 := by simp
 have ht : SlR w0 (cutV fv 0 xs.length (xs.length + 3) (Enc.sz (Vector UInt8 32))) xs := by
  have := hf.head (m := xs.length + 3) (by omega) (by omega)
  exact this
 have hct : capV (cutV fv 0 xs.length (xs.length + 3) (Enc.sz (Vector UInt8 32))) = xs.length + 3 := by obtain ⟨a, c, h⟩ := hf.eq; rw [h]; simp [cutV, capV]
 have hr : SlR w0 (cutV (cutV fv 0 xs.length (xs.length + 3) (Enc.sz (Vector UInt8 32))) 0 (xs.length + 3) (xs.length + 3) (Enc.sz (Vector UInt8 32))) (xs ++ [mk, mk, mk]) := by
  have := hf.front (k := xs.length + 3) (m := xs.length + 3) (by omega) (Nat.le_refl _) (by omega)
  rw [List.take_of_length_le (by omega)] at this
  rw [cutV_cut0]
  exact this
 have hle := hf.le
 rw [hlx] at hle
 simp only [maxLen] at hle
 refine WC.seq (fun K1 hK1 => ?_)
 refine WC.region ?_
 refine WL.op rfl (opW.boxA hS rfl ?_)
 intro b5 w _ hS
 refine WL.op rfl (opW.assignB rfl ?_)
 refine WL.nil ?_
 refine thenQ_n (hK1 _ _ ?_)
 refine WC.seq (fun K2 hK2 => ?_)
 refine WC.seq (fun K3 hK3 => ?_)
 refine WC.region ?_
 refine WL.op rfl (opW.moveV (v := (cutV fv 0 xs.length (xs.length + 3) (Enc.sz (Vector UInt8 32)))) rfl ?_)
 refine WL.op rfl (opW.moveV (v := u) rfl ?_)
 refine WL.op rfl (opW.call (same_k _ _ _ xs xs (ht.bel hS.old) (hu.bel hS.old)) rfl ?_)
 rintro _ w ⟨rfl, hw⟩; replace hS := hS.bel hw
 rw [decide_eq_true (rfl : xs = xs)]
 refine WL.op rfl (opW.not rfl ?_)
 refine WL.op rfl (opW.moveB rfl ?_)
 refine WL.gT 13 rfl rfl rfl (WL.op rfl (opW.moveV (v := (cutV fv 0 xs.length (xs.length + 3) (Enc.sz (Vector UInt8 32)))) rfl ?_))
 refine WL.gT 13 rfl rfl rfl (WL.op rfl (opW.cap (v := (cutV fv 0 xs.length (xs.length + 3) (Enc.sz (Vector UInt8 32)))) rfl (ht.bel hS.old) ?_))
 refine WL.gT 13 rfl rfl rfl (WL.op rfl (opW.moveV (v := u) rfl ?_))
 refine WL.gT 13 rfl rfl rfl (WL.op rfl (opW.lenV rfl ((hu.bel hS.old)) ?_))
 refine WL.gT 13 rfl rfl rfl (WL.op rfl (opW.add rfl rfl (wrap_i64 (by omega)) ?_))
 refine WL.gT 13 rfl rfl rfl (WL.op rfl (opW.lss rfl rfl ?_))
 refine WL.op rfl (opW.pickT rfl rfl ?_)
 refine WL.nil ?_
 refine thenQ_n (hK3 _ _ ?_)
 refine WC.cond _ rfl (fun hc0 => ?_) (fun hc0 => ?_)
 ·
  have hr0 := hc0
  try simp only [sq1,sq2,sq3,sq4,sq5,sq6,sq7,sq8,sq9,sq0] at hc0
  simp [hct] at hr0
 ·
  have hr0 := hc0
  try simp only [sq1,sq2,sq3,sq4,sq5,sq6,sq7,sq8,sq9,sq0] at hc0
  refine WC.skip ?_
  refine thenQ_n (hK2 _ _ ?_)
  refine WC.seq (fun K4 hK4 => ?_)
  refine WC.region ?_
  refine WL.op rfl (opW.moveV (v := (cutV fv 0 xs.length (xs.length + 3) (Enc.sz (Vector UInt8 32)))) rfl ?_)
  refine WL.op rfl (opW.moveV (v := u) rfl ?_)
  refine WL.op rfl (opW.lenV rfl ((hu.bel hS.old)) ?_)
  refine WL.op rfl (opW.add rfl rfl (wrap_i64 (by omega)) ?_)
  refine WL.op rfl (opW.cutS (l := 0) (h' := xs.length + 3) (m := xs.length + 3) (ht.bel hS.old) ⟨hct.symm, Nat.le_of_eq hct.symm⟩ ⟨⟨_, rfl⟩, Nat.le_refl _⟩ ⟨rfl, Nat.zero_le _⟩ ?_)
  refine WL.op rfl (opW.assignV (v := (cutV (cutV fv 0 xs.length (xs.length + 3) (Enc.sz (Vector UInt8 32))) 0 (xs.length + 3) (xs.length + 3) (Enc.sz (Vector UInt8 32)))) rfl ?_)
  refine WL.nil ?_
  refine thenQ_n (hK4 _ _ ?_)
  refine WC.seq (fun K5 hK5 => ?_)
  refine WC.seq (fun K6 hK6 => ?_)
  refine WC.region ?_
  refine WL.op rfl (opW.assignI rfl ?_)
  refine WL.nil ?_
  refine thenQ_n (hK6 _ _ ?_)
  refine WC.block ?_
  refine WC.loop (fun q f w => ∃ k : Nat, Fits [(1, u), (5, .pointer (some ⟨b5, 0, none⟩)), (7, (cutV (cutV fv 0 xs.length (xs.length + 3) (Enc.sz (Vector UInt8 32))) 0 (xs.length + 3) (xs.length + 3) (Enc.sz (Vector UInt8 32)))), (8, .int .i64 (k : Int))] f ∧ St w0 [blkE b5 (Enc.enc mk) 62] w ∧ k ≤ 3 ∧ q = 3 - k) (3) ?_ ?_
  ·
   exact ⟨0, ⟨rfl, rfl, rfl, rfl, trivial⟩, hS, Nat.zero_le _, rfl⟩
  ·
   rintro q f w ⟨k, hfit, hS, hk0, hm⟩
   refine WC.fits _ hfit (fun g => ?_)
   clear hfit
   refine WC.seq (fun K7 hK7 => ?_)
   refine WC.seq (fun K8 hK8 => ?_)
   refine WC.region ?_
   refine WL.op rfl (opW.moveI rfl ?_)
   refine WL.op rfl (opW.lss rfl rfl ?_)
   refine WL.nil ?_
   refine thenQ_n (hK8 _ _ ?_)
   refine WC.cond _ rfl (fun hc1 => ?_) (fun hc1 => ?_)
   ·
    have hr1 := hc1
    try simp only [sq1,sq2,sq3,sq4,sq5,sq6,sq7,sq8,sq9,sq0] at hc1
    have hkl : k < 3 := by omega
    have hkx : xs.length + k < (xs ++ [mk, mk, mk]).length := by omega
    refine WC.skip ?_
    refine thenQ_n (hK7 _ _ ?_)
    refine WC.seq (fun K9 hK9 => ?_)
    refine WC.block ?_
    refine WC.seq (fun K10 hK10 => ?_)
    refine WC.draw 9 (.look 0 (.look 1 (.look 2 (.look 3 (.look 4 (.look 5 (.look 6 (.look 7 (.look 8 .nil))))))))) (by kernel_rfl) (fun _ _ _ h => h) (fun w1 hw1 => ?_)
    replace hS := hS.bel hw1
    have hS1 := hS
    have hT := St.start w1
    refine ML.look rfl rfl rfl (fun w hw => (by have hS := hS1.bel hw; exact opW.moveV (v := (cutV (cutV fv 0 xs.length (xs.length + 3) (Enc.sz (Vector UInt8 32))) 0 (xs.length + 3) (xs.length + 3) (Enc.sz (Vector UInt8 32)))) rfl ⟨rfl, rfl⟩)) ?_
    refine ML.look rfl rfl rfl (fun w hw => (by have hS := hS1.bel hw; exact opW.moveV (v := u) rfl ⟨rfl, rfl⟩)) ?_
    refine ML.look rfl rfl rfl (fun w hw => (by have hS := hS1.bel hw; exact opW.lenV rfl ((hu.bel hS.old)) ⟨rfl, rfl⟩)) ?_
    refine ML.look rfl rfl rfl (fun w hw => (by have hS := hS1.bel hw; exact opW.moveI rfl ⟨rfl, rfl⟩)) ?_
    refine ML.look rfl rfl rfl (fun w hw => (by have hS := hS1.bel hw; exact opW.add rfl rfl (wrap_i64 (by omega)) ⟨rfl, rfl⟩)) ?_
    refine ML.look rfl rfl rfl (fun w hw => (by have hS := hS1.bel hw; exact opW.idxV rfl ((hr.bel hS.old)) rfl (by omega) ⟨rfl, rfl⟩)) ?_
    refine ML.look rfl rfl rfl (fun w hw => (by have hS := hS1.bel hw; exact opW.loadV rfl (((hr.bel hS.old).isPt (i := xs.length + k) hkx).ldA (Enc.size_eq _)) ⟨rfl, rfl⟩)) ?_
    refine ML.look rfl rfl rfl (fun w hw => (by have hS := hS1.bel hw; exact opW.loadV rfl (hS.ldA (cs := Enc.enc mk) (by repeat constructor) (Enc.size_eq _)) ⟨rfl, rfl⟩)) ?_
    refine ML.look rfl rfl rfl (fun w hw => (by have hS := hS1.bel hw; exact opW.neqE rfl rfl ⟨rfl, rfl⟩)) ?_
    refine ML.nil ?_
    refine thenQ_n (hK10 _ _ ?_)
    refine WC.cond _ rfl (fun hc2 => ?_) (fun hc2 => ?_)
    ·
     have hr2 := hc2
     try simp only [sq1,sq2,sq3,sq4,sq5,sq6,sq7,sq8,sq9,sq0] at hc2
     have hg : (xs ++ [mk, mk, mk])[xs.length + k] = mk := by
      rw [List.getElem_append_right (by omega)]
      rcases (by omega : k = 0 ∨ k = 1 ∨ k = 2) with rfl | rfl | rfl <;> simp
     rw [hg] at hr2
     simp at hr2
    ·
     have hr2 := hc2
     try simp only [sq1,sq2,sq3,sq4,sq5,sq6,sq7,sq8,sq9,sq0] at hc2
     refine WC.skip ?_
     refine blockQ_n ?_
     refine thenQ_n (hK9 _ _ ?_)
     refine WC.region ?_
     refine WL.op rfl (opW.moveI rfl ?_)
     refine WL.op rfl (opW.add rfl rfl (wrap_i64 (by omega)) ?_)
     refine WL.op rfl (opW.assignI rfl ?_)
     refine WL.nil ?_
     refine thenQ_n ?_
     exact ⟨3 - (k + 1), by omega, k + 1, ⟨rfl, rfl, rfl, congrArg (Value.int .i64) (by omega), trivial⟩, hS, by omega, rfl⟩
   ·
    have hr1 := hc1
    try simp only [sq1,sq2,sq3,sq4,sq5,sq6,sq7,sq8,sq9,sq0] at hc1
    refine WC.exit ?_
    refine thenQ_e ?_
    refine thenQ_e ?_
    refine blockQ_hit ?_
    refine thenQ_n (hK5 _ _ ?_)
    refine WC.seq (fun K11 hK11 => ?_)
    refine WC.region ?_
    refine WL.op rfl (opW.assignB rfl ?_)
    refine WL.nil ?_
    refine thenQ_n (hK11 _ _ ?_)
    refine WC.ret ?_
    refine bodyQ_ret (.tmpB rfl .nil) ?_
    exact ⟨rfl, hS.old⟩

theorem twinKeys_ok (w0 : World) (v : Value) (xs : List (Vector UInt8 32)) (hx : SlR w0 v xs) (hl : xs.length ≤ 100000) : Ret Tryz.prog 71 #[v] w0 (fun u w' => ∃ fv, u = cutV fv 0 xs.length (xs.length + 3) (Enc.sz (Vector UInt8 32)) ∧ capV fv = xs.length + 3 ∧ New w0 w' fv 62 (xs ++ [markK, markK, markK]) ∧ Bel w0 w') := by
 refine Ret.enter (args := [v]) Tryz.func71 rfl Tryz.ntmps71 Tryz.results71 rfl ?_
 have hS := St.start w0
 refine WC.seq (fun K1 hK1 => ?_)
 refine WC.region ?_
 refine WL.op rfl (opW.assignV (v := .slice none 0 0) rfl ?_)
 refine WL.nil ?_
 refine thenQ_n (hK1 _ _ ?_)
 refine WC.seq (fun K2 hK2 => ?_)
 refine WC.region ?_
 refine WL.op rfl (opW.moveV (v := v) rfl ?_)
 refine WL.op rfl (opW.call (markKey_ok _) rfl ?_)
 rintro v w ⟨rfl, hw⟩; replace hS := hS.bel hw
 refine WL.op rfl (opW.call (twin_Key _ v xs markK (hx.bel hS.old) hl) rfl ?_)
 rintro _ w ⟨fv, rfl, hc, hn, hw⟩
 replace hS := hS.newOwn hw hn.1 hn.2
 refine WL.op rfl (opW.assignV (v := (cutV fv 0 xs.length (xs.length + 3) (Enc.sz (Vector UInt8 32)))) rfl ?_)
 refine WL.nil ?_
 refine thenQ_n (hK2 _ _ ?_)
 refine WC.ret ?_
 refine bodyQ_ret (.tmpV (v := (cutV fv 0 xs.length (xs.length + 3) (Enc.sz (Vector UInt8 32)))) rfl .nil) ?_
 exact ⟨fv, rfl, hc, hS.own_new (by repeat constructor), hS.old⟩

theorem leftKeys_ok (w0 : World) (fv u : Value) (xs : List (Vector UInt8 32)) (hcf : capV fv = xs.length + 3) (hf : SlR w0 fv (xs ++ [markK, markK, markK])) (hu : SlR w0 u xs) : Ret Tryz.prog 83 #[(cutV fv 0 xs.length (xs.length + 3) (Enc.sz (Vector UInt8 32))), u] w0 (fun r w' => r = .bool true ∧ Bel w0 w') := by
 refine Ret.enter (args := [(cutV fv 0 xs.length (xs.length + 3) (Enc.sz (Vector UInt8 32))), u]) Tryz.func83 rfl Tryz.ntmps83 Tryz.results83 rfl ?_
 have hS := St.start w0
 refine WC.seq (fun K1 hK1 => ?_)
 refine WC.region ?_
 refine WL.op rfl (opW.assignB rfl ?_)
 refine WL.nil ?_
 refine thenQ_n (hK1 _ _ ?_)
 refine WC.seq (fun K2 hK2 => ?_)
 refine WC.region ?_
 refine WL.op rfl (opW.moveV (v := (cutV fv 0 xs.length (xs.length + 3) (Enc.sz (Vector UInt8 32)))) rfl ?_)
 refine WL.op rfl (opW.moveV (v := u) rfl ?_)
 refine WL.op rfl (opW.call (markKey_ok _) rfl ?_)
 rintro _ w ⟨rfl, hw⟩; replace hS := hS.bel hw
 refine WL.op rfl (opW.call (left_Key _ fv u xs markK hcf (hf.bel hS.old) (hu.bel hS.old)) rfl ?_)
 rintro _ w ⟨rfl, hw⟩; replace hS := hS.bel hw
 refine WL.op rfl (opW.assignB rfl ?_)
 refine WL.nil ?_
 refine thenQ_n (hK2 _ _ ?_)
 refine WC.ret ?_
 refine bodyQ_ret (.tmpB rfl .nil) ?_
 exact ⟨rfl, hS.old⟩

/-- bytes as a twin: all of the list with its room, the list, the bytes -/
structure BT where
 full : Value
 cut : SlV
 xs : List UInt8
def BT.ok (b : BT) : Prop := b.cut.v = cutV b.full 0 b.xs.length (b.xs.length + 3) (Enc.sz UInt8) ∧ capV b.full = b.xs.length + 3
def BT.e (b : BT) : Ent := ownE b.full 5 (b.xs ++ [165, 165, 165])
def tpL (l : List (BT × BT)) : List Ent := l.flatMap fun p => [p.1.e, p.2.e]
@[irreducible] def tpE (l : List (BT × BT)) : Ent := starE (tpL l)
theorem tpE_eq (l : List (BT × BT)) : tpE l = starE (tpL l) := by unfold tpE; rfl
theorem tpL_snoc (l : List (BT × BT)) (p : BT × BT) : tpL (l ++ [p]) = tpL l ++ [p.1.e, p.2.e] := by simp [tpL]
theorem St.tpNew {w0 w : World} {S : List Ent} (h : St w0 S w) : St w0 (tpE [] :: S) w := by
 rw [tpE_eq]; exact St.closed (l := tpL []) h
theorem St.tpAdd {w0 w : World} {S : List Ent} {l : List (BT × BT)} {p : BT × BT} (h : St w0 (p.2.e :: p.1.e :: tpE l :: S) w) : St w0 (tpE (l ++ [p]) :: S) w := by
 rw [tpE_eq, tpL_snoc]
 have h1 : St w0 (tpE l :: (p.1.e :: p.2.e :: S)) w := h.perm (((List.Perm.swap (tpE l) p.1.e S).cons p.2.e).trans ((List.Perm.swap (tpE l) p.2.e _).trans ((List.Perm.swap p.1.e p.2.e S).cons (tpE l))))
 rw [tpE_eq] at h1
 refine St.closed (l := tpL l ++ [p.1.e, p.2.e]) ?_
 rw [List.append_assoc]
 exact h1.opened
theorem starE_in {l : List Ent} {w : World} (h : (starE l).A w) {e : Ent} (he : e ∈ l) : e.A w := by rw [starE_A] at h; exact h.2 e he
theorem tp_read {l : List (BT × BT)} {w : World} (h : (tpE l).A w) {p : BT × BT} (hp : p ∈ l) : SlR w p.1.full (p.1.xs ++ [165, 165, 165]) ∧ SlR w p.2.full (p.2.xs ++ [165, 165, 165]) := by
 rw [tpE_eq] at h
 have h1 := starE_in h (e := p.1.e) (List.mem_flatMap.2 ⟨p, hp, by simp⟩)
 have h2 := starE_in h (e := p.2.e) (List.mem_flatMap.2 ⟨p, hp, by simp⟩)
 unfold BT.e at h1 h2
 rw [ownE_A] at h1 h2
 exact ⟨h1.sl, h2.sl⟩
theorem BT.ok.sl {b : BT} (h : b.ok) {w : World} (hf : SlR w b.full (b.xs ++ [165, 165, 165])) : SlR w b.cut.v b.xs := by
 have := hf.head (m := b.xs.length + 3) (by omega) (by rw [h.2]; exact Nat.le_refl _)
 rw [h.1]; exact this
def tI (x : Instr) (p : BT × BT) : Instr := ⟨x.program, p.1.cut, p.2.cut⟩
def tL (x : Lookup) (p : BT × BT) : Lookup := ⟨x.table, p.1.cut, p.2.cut⟩
theorem tI_len (ins : List Instr) (l : List (BT × BT)) : (List.zipWith tI ins l).length = min ins.length l.length := List.length_zipWith
theorem tL_len (ins : List Lookup) (l : List (BT × BT)) : (List.zipWith tL ins l).length = min ins.length l.length := List.length_zipWith
/-- the twins are of these bytes -/
def Tws {α : Type} (l : List (BT × BT)) (c : List (α × List UInt8 × List UInt8)) : Prop := l.length = c.length ∧ ∀ i (h1 : i < l.length) (h2 : i < c.length), l[i].1.ok ∧ l[i].2.ok ∧ l[i].1.xs = c[i].2.1 ∧ l[i].2.xs = c[i].2.2
theorem Tws.snoc {α : Type} {l : List (BT × BT)} {c : List (α × List UInt8 × List UInt8)} {k : Nat} (h : Tws l (c.take k)) (hk : k < c.length) {p : BT × BT} (h1 : p.1.ok) (h2 : p.2.ok) (h3 : p.1.xs = c[k].2.1) (h4 : p.2.xs = c[k].2.2) : Tws (l ++ [p]) (c.take (k + 1)) := by
 have hl := h.1
 rw [List.length_take, Nat.min_eq_left (by omega)] at hl
 refine ⟨by rw [List.length_append, List.length_take]; simp; omega, fun i g1 g2 => ?_⟩
 rw [List.getElem_take]
 by_cases hi : i < l.length
 ·have := h.2 i hi (by rw [List.length_take]; omega)
  rw [List.getElem_take] at this
  rw [List.getElem_append_left hi]; exact this
 ·have hik : i = k := by rw [List.length_append] at g1; simp at g1; omega
  subst hik
  rw [List.getElem_append_right (by omega)]
  simp only [hl, Nat.sub_self, List.getElem_cons_zero]
  exact ⟨h1, h2, h3, h4⟩
theorem zip_snoc {α β : Type} (f : α → β → α) {xs : List α} {l : List β} {k : Nat} (hk : k < xs.length) (hl : l.length = k) (p : β) {x : α} (hx : f xs[k] p = x) : List.zipWith f (xs.take (k + 1)) (l ++ [p]) = List.zipWith f (xs.take k) l ++ [x] := by
 subst hx
 rw [List.take_succ_eq_append_getElem hk, List.zipWith_append (by rw [List.length_take]; omega)]
 rfl

end Go.Fer
