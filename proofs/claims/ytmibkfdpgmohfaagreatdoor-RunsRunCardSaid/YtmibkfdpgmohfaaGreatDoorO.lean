/- SameMessage -/
import Derived.Test.YtmibkfdpgmohfaaGreatDoorM
set_option linter.all false
namespace Go.Fer
open Go Go.Proofs Go.RowKit

theorem take_all {α : Type} {xs ys : List α} {k n m : Nat} (h : xs.take k = ys.take k) (h1 : n = xs.length) (h2 : m = ys.length) (h3 : n ≤ k) (h4 : n = m) : xs = ys := by
 rw [List.take_of_length_le (by omega), List.take_of_length_le (by omega)] at h; exact h
theorem get_neq {α : Type} {xs ys : List α} {k : Nat} (h1 : k < xs.length) (h2 : k < ys.length) (he : xs[k] ≠ ys[k]) : xs ≠ ys := fun e => he (by subst e; rfl)
/-- a message and its twin -/
structure TwR (w : World) (m : Message) (c : MC) (ins : List Instr) (lks : List Lookup) (kf : Value) (kc iv lv : SlV) (li ll : List (BT × BT)) : Prop where
 hk : kc.v = cutV kf 0 c.keys.length (c.keys.length + 3) (Enc.sz (Vector UInt8 32))
 hcf : capV kf = c.keys.length + 3
 tw : Tws li c.ins
 tl : Tws ll c.lks
 k : SlR w kf (c.keys ++ [markK, markK, markK])
 i : SlR w iv.v (List.zipWith tI ins li)
 l : SlR w lv.v (List.zipWith tL lks ll)
 ib : ∀ p ∈ li, SlR w p.1.full (p.1.xs ++ [165, 165, 165]) ∧ SlR w p.2.full (p.2.xs ++ [165, 165, 165])
 lb : ∀ p ∈ ll, SlR w p.1.full (p.1.xs ++ [165, 165, 165]) ∧ SlR w p.2.full (p.2.xs ++ [165, 165, 165])
theorem TwR.bel {w w' : World} {m : Message} {c : MC} {ins : List Instr} {lks : List Lookup} {kf : Value} {kc iv lv : SlV} {li ll : List (BT × BT)} (h : TwR w m c ins lks kf kc iv lv li ll) (hb : Bel w w') : TwR w' m c ins lks kf kc iv lv li ll :=
 ⟨h.hk, h.hcf, h.tw, h.tl, h.k.bel hb, h.i.bel hb, h.l.bel hb, fun p hp => ⟨(h.ib p hp).1.bel hb, (h.ib p hp).2.bel hb⟩, fun p hp => ⟨(h.lb p hp).1.bel hb, (h.lb p hp).2.bel hb⟩⟩
theorem TwR.isM {w : World} {m : Message} {c : MC} {ins : List Instr} {lks : List Lookup} {kf : Value} {kc iv lv : SlV} {li ll : List (BT × BT)} (h : TwR w m c ins lks kf kc iv lv li ll) (hc : IsM w m c ins lks) : IsM w ⟨m.v0, m.header, kc, m.recent, iv, lv⟩ c (List.zipWith tI ins li) (List.zipWith tL lks ll) := by
 have hil := hc.ii.1
 have hll := hc.ll.1
 have htl := h.tw.1
 have htm := h.tl.1
 refine ⟨hc.v0, hc.h, hc.recent, ?_, h.i, ⟨by rw [tI_len]; omega, fun i h1 h2 => ?_⟩, h.l, ⟨by rw [tL_len]; omega, fun i h1 h2 => ?_⟩⟩
 ·show SlR w kc.v c.keys
  have := h.k.head (m := c.keys.length + 3) (by omega) (by rw [h.hcf]; exact Nat.le_refl _)
  rw [h.hk]; exact this
 ·rw [tI_len] at h1
  obtain ⟨o1, o2, o3, o4⟩ := h.tw.2 i (by omega) h2
  obtain ⟨r1, r2⟩ := h.ib li[i] (List.getElem_mem _)
  rw [List.getElem_zipWith]
  exact ⟨(hc.ii.2 i (by omega) h2).1, o3 ▸ o1.sl r1, o4 ▸ o2.sl r2⟩
 ·rw [tL_len] at h1
  obtain ⟨o1, o2, o3, o4⟩ := h.tl.2 i (by omega) h2
  obtain ⟨r1, r2⟩ := h.lb ll[i] (List.getElem_mem _)
  rw [List.getElem_zipWith]
  exact ⟨(hc.ll.2 i (by omega) h2).1, o3 ▸ o1.sl r1, o4 ▸ o2.sl r2⟩

theorem sameMsg_ok (w0 : World) (a b : Message) (ca cb : MC) (insA insB : List Instr) (lksA lksB : List Lookup) (hA : IsM w0 a ca insA lksA) (hB : IsM w0 b cb insB lksB) : Ret Tryz.prog 82 #[.agg (Enc.enc a), .agg (Enc.enc b)] w0 (fun r w' => r = .bool (decide (ca = cb)) ∧ Bel w0 w') := by
 refine Ret.enter (args := [.agg (Enc.enc a), .agg (Enc.enc b)]) Tryz.func82 rfl Tryz.ntmps82 Tryz.results82 rfl ?_
 have hS := St.start w0
 refine WC.seq (fun K1 hK1 => ?_)
 refine WC.region ?_
 refine WL.op rfl (opW.boxA hS rfl ?_)
 intro b2 w _ hS
 refine WL.op rfl (opW.boxA hS rfl ?_)
 intro b3 w _ hS
 refine WL.op rfl (opW.assignB rfl ?_)
 refine WL.nil ?_
 refine thenQ_n (hK1 _ _ ?_)
 refine WC.seq (fun K2 hK2 => ?_)
 refine WC.seq (fun K3 hK3 => ?_)
 refine WC.region ?_
 refine WL.op rfl (opW.fieldAddrB rfl ?_)
 refine WL.op rfl (opW.loadV rfl (hS.ld1 (by repeat constructor) (Message.at_v0 a)) ?_)
 refine WL.op rfl (opW.fieldAddrB rfl ?_)
 refine WL.op rfl (opW.loadV rfl (hS.ld1 (by repeat constructor) (Message.at_v0 b)) ?_)
 refine WL.op rfl (opW.neqB rfl rfl ?_)
 refine WL.op rfl (opW.moveB rfl ?_)
 refine WL.gd _ 12 _ rfl rfl rfl rfl (fun hg13 => opW.fieldAddrB rfl ⟨rfl, Bel.refl _⟩) (fun w hw => ?_)
 replace hS := hS.bel hw
 refine WL.gd _ 12 (.agg (Enc.enc a.header)) rfl rfl rfl rfl (fun hg14 => ?_) (fun w hw => ?_)
 ·refine opW.loadV (by first | exact gv_of rfl hg14 | rfl) (hS.ldF (by repeat constructor) (Message.ex_header a) (by rw [Enc.size_eq]; decide)) ⟨rfl, Bel.refl _⟩
 replace hS := hS.bel hw
 refine WL.gd _ 12 _ rfl rfl rfl rfl (fun hg15 => opW.fieldAddrB rfl ⟨rfl, Bel.refl _⟩) (fun w hw => ?_)
 replace hS := hS.bel hw
 refine WL.gd _ 12 (.agg (Enc.enc b.header)) rfl rfl rfl rfl (fun hg16 => ?_) (fun w hw => ?_)
 ·refine opW.loadV (by first | exact gv_of rfl hg16 | rfl) (hS.ldF (by repeat constructor) (Message.ex_header b) (by rw [Enc.size_eq]; decide)) ⟨rfl, Bel.refl _⟩
 replace hS := hS.bel hw
 refine WL.gd _ 12 (.bool (!decide (a.header = b.header))) rfl rfl rfl rfl (fun hg17 => ?_) (fun w hw => ?_)
 ·refine opW.neqE (by first | exact gv_of rfl hg17 | rfl) (by first | exact gv_of rfl hg17 | rfl) ⟨rfl, Bel.refl _⟩
 replace hS := hS.bel hw
 refine WL.op rfl (opW.pickOr rfl rfl (by first | rfl) ?_)
 refine WL.op rfl (opW.moveB rfl ?_)
 refine WL.gd _ 19 _ rfl rfl rfl rfl (fun hg20 => opW.fieldAddrB rfl ⟨rfl, Bel.refl _⟩) (fun w hw => ?_)
 replace hS := hS.bel hw
 refine WL.gd _ 19 (.agg (Enc.enc a.recent)) rfl rfl rfl rfl (fun hg21 => ?_) (fun w hw => ?_)
 ·refine opW.loadV (by first | exact gv_of rfl hg21 | rfl) (hS.ldF (by repeat constructor) (Message.ex_recent a) (by rw [Enc.size_eq]; decide)) ⟨rfl, Bel.refl _⟩
 replace hS := hS.bel hw
 refine WL.gd _ 19 _ rfl rfl rfl rfl (fun hg22 => opW.fieldAddrB rfl ⟨rfl, Bel.refl _⟩) (fun w hw => ?_)
 replace hS := hS.bel hw
 refine WL.gd _ 19 (.agg (Enc.enc b.recent)) rfl rfl rfl rfl (fun hg23 => ?_) (fun w hw => ?_)
 ·refine opW.loadV (by first | exact gv_of rfl hg23 | rfl) (hS.ldF (by repeat constructor) (Message.ex_recent b) (by rw [Enc.size_eq]; decide)) ⟨rfl, Bel.refl _⟩
 replace hS := hS.bel hw
 refine WL.gd _ 19 (.bool (!decide (a.recent = b.recent))) rfl rfl rfl rfl (fun hg24 => ?_) (fun w hw => ?_)
 ·refine opW.neqE (by first | exact gv_of rfl hg24 | rfl) (by first | exact gv_of rfl hg24 | rfl) ⟨rfl, Bel.refl _⟩
 replace hS := hS.bel hw
 refine WL.op rfl (opW.pickOr rfl rfl (by first | rfl) ?_)
 refine WL.op rfl (opW.moveB rfl ?_)
 refine WL.gd _ 26 _ rfl rfl rfl rfl (fun hg27 => opW.fieldAddrB rfl ⟨rfl, Bel.refl _⟩) (fun w hw => ?_)
 replace hS := hS.bel hw
 refine WL.gd _ 26 a.keys.v rfl rfl rfl rfl (fun hg28 => ?_) (fun w hw => ?_)
 ·refine opW.loadV (by first | exact gv_of rfl hg28 | rfl) (hS.ld1 (by repeat constructor) (Message.at_keys a)) ⟨rfl, Bel.refl _⟩
 replace hS := hS.bel hw
 refine WL.gd _ 26 _ rfl rfl rfl rfl (fun hg29 => opW.fieldAddrB rfl ⟨rfl, Bel.refl _⟩) (fun w hw => ?_)
 replace hS := hS.bel hw
 refine WL.gd _ 26 b.keys.v rfl rfl rfl rfl (fun hg30 => ?_) (fun w hw => ?_)
 ·refine opW.loadV (by first | exact gv_of rfl hg30 | rfl) (hS.ld1 (by repeat constructor) (Message.at_keys b)) ⟨rfl, Bel.refl _⟩
 replace hS := hS.bel hw
 refine WL.gd _ 26 (.bool (decide (ca.keys = cb.keys))) rfl rfl rfl rfl (fun hg31 => ?_) (fun w hw => ?_)
 ·refine opW.call (same_k _ _ _ _ _ (hA.k.bel hS.old) (hB.k.bel hS.old)) (args2 (by first | exact gv_of rfl hg31 | rfl) (by first | exact gv_of rfl hg31 | rfl)) ?_
  rintro v w ⟨rfl, hw⟩; replace hS := hS.bel hw
  exact ⟨rfl, ‹_›⟩
 replace hS := hS.bel hw
 refine WL.gd _ 26 _ rfl rfl rfl rfl (fun hg32 => opW.not (by first | exact gv_of rfl hg32 | rfl) ⟨rfl, Bel.refl _⟩) (fun w hw => ?_)
 replace hS := hS.bel hw
 refine WL.op rfl (opW.pickOr rfl rfl (by first | rfl) ?_)
 refine WL.op rfl (opW.moveB rfl ?_)
 refine WL.gd _ 34 _ rfl rfl rfl rfl (fun hg35 => opW.fieldAddrB rfl ⟨rfl, Bel.refl _⟩) (fun w hw => ?_)
 replace hS := hS.bel hw
 refine WL.gd _ 34 a.instrs.v rfl rfl rfl rfl (fun hg36 => ?_) (fun w hw => ?_)
 ·refine opW.loadV (by first | exact gv_of rfl hg36 | rfl) (hS.ld1 (by repeat constructor) (Message.at_instrs a)) ⟨rfl, Bel.refl _⟩
 replace hS := hS.bel hw
 refine WL.gd _ 34 (.int .i64 (insA.length : Int)) rfl rfl rfl rfl (fun hg37 => ?_) (fun w hw => ?_)
 ·refine opW.lenV (by first | exact gv_of rfl hg37 | rfl) ((hA.i.bel hS.old)) ⟨rfl, Bel.refl _⟩
 replace hS := hS.bel hw
 refine WL.gd _ 34 _ rfl rfl rfl rfl (fun hg38 => opW.fieldAddrB rfl ⟨rfl, Bel.refl _⟩) (fun w hw => ?_)
 replace hS := hS.bel hw
 refine WL.gd _ 34 b.instrs.v rfl rfl rfl rfl (fun hg39 => ?_) (fun w hw => ?_)
 ·refine opW.loadV (by first | exact gv_of rfl hg39 | rfl) (hS.ld1 (by repeat constructor) (Message.at_instrs b)) ⟨rfl, Bel.refl _⟩
 replace hS := hS.bel hw
 refine WL.gd _ 34 (.int .i64 (insB.length : Int)) rfl rfl rfl rfl (fun hg40 => ?_) (fun w hw => ?_)
 ·refine opW.lenV (by first | exact gv_of rfl hg40 | rfl) ((hB.i.bel hS.old)) ⟨rfl, Bel.refl _⟩
 replace hS := hS.bel hw
 refine WL.gd _ 34 _ rfl rfl rfl rfl (fun hg41 => opW.neq (by first | exact gv_of rfl hg41 | rfl) (by first | exact gv_of rfl hg41 | rfl) ⟨rfl, Bel.refl _⟩) (fun w hw => ?_)
 replace hS := hS.bel hw
 refine WL.op rfl (opW.pickOr rfl rfl (by first | rfl) ?_)
 refine WL.op rfl (opW.moveB rfl ?_)
 refine WL.gd _ 43 _ rfl rfl rfl rfl (fun hg44 => opW.fieldAddrB rfl ⟨rfl, Bel.refl _⟩) (fun w hw => ?_)
 replace hS := hS.bel hw
 refine WL.gd _ 43 a.lookups.v rfl rfl rfl rfl (fun hg45 => ?_) (fun w hw => ?_)
 ·refine opW.loadV (by first | exact gv_of rfl hg45 | rfl) (hS.ld1 (by repeat constructor) (Message.at_lookups a)) ⟨rfl, Bel.refl _⟩
 replace hS := hS.bel hw
 refine WL.gd _ 43 (.int .i64 (lksA.length : Int)) rfl rfl rfl rfl (fun hg46 => ?_) (fun w hw => ?_)
 ·refine opW.lenV (by first | exact gv_of rfl hg46 | rfl) ((hA.l.bel hS.old)) ⟨rfl, Bel.refl _⟩
 replace hS := hS.bel hw
 refine WL.gd _ 43 _ rfl rfl rfl rfl (fun hg47 => opW.fieldAddrB rfl ⟨rfl, Bel.refl _⟩) (fun w hw => ?_)
 replace hS := hS.bel hw
 refine WL.gd _ 43 b.lookups.v rfl rfl rfl rfl (fun hg48 => ?_) (fun w hw => ?_)
 ·refine opW.loadV (by first | exact gv_of rfl hg48 | rfl) (hS.ld1 (by repeat constructor) (Message.at_lookups b)) ⟨rfl, Bel.refl _⟩
 replace hS := hS.bel hw
 refine WL.gd _ 43 (.int .i64 (lksB.length : Int)) rfl rfl rfl rfl (fun hg49 => ?_) (fun w hw => ?_)
 ·refine opW.lenV (by first | exact gv_of rfl hg49 | rfl) ((hB.l.bel hS.old)) ⟨rfl, Bel.refl _⟩
 replace hS := hS.bel hw
 refine WL.gd _ 43 _ rfl rfl rfl rfl (fun hg50 => opW.neq (by first | exact gv_of rfl hg50 | rfl) (by first | exact gv_of rfl hg50 | rfl) ⟨rfl, Bel.refl _⟩) (fun w hw => ?_)
 replace hS := hS.bel hw
 refine WL.op rfl (opW.pickOr rfl rfl (by first | rfl) ?_)
 refine WL.nil ?_
 refine thenQ_n (hK3 _ _ ?_)
 refine WC.cond _ rfl (fun hc0 => ?_) (fun hc0 => ?_)
 ·
  have hr0 := hc0
  try simp only [sq1,sq2,sq3,sq4,sq5,sq6,sq7,sq8,sq9,sq0] at hc0
  refine WC.seq (fun K4 hK4 => ?_)
  refine WC.region ?_
  refine WL.op rfl (opW.assignB rfl ?_)
  refine WL.nil ?_
  refine thenQ_n (hK4 _ _ ?_)
  refine WC.ret ?_
  refine thenQ_r ?_
  refine bodyQ_ret (.tmpB rfl .nil) ?_
  refine ⟨?_, hS.old⟩
  have hne : ca ≠ cb := by
   intro e
   have h1 := hA.ii.1; have h2 := hB.ii.1; have h3 := hA.ll.1; have h4 := hB.ll.1
   rw [hA.v0, hA.h, hA.recent, hB.v0, hB.h, hB.recent, h1, h2, h3, h4, e] at hr0
   simp at hr0
  rw [decide_eq_false hne]
  rfl
 ·
  have hr0 := hc0
  try simp only [sq1,sq2,sq3,sq4,sq5,sq6,sq7,sq8,sq9,sq0] at hc0
  have hle1 := hA.i.le
  have hle2 := hA.l.le
  simp only [maxLen] at hle1 hle2
  have hq : a.v0 = b.v0 ∧ a.header = b.header ∧ a.recent = b.recent ∧ ca.keys = cb.keys ∧ (insA.length : Int) = insB.length ∧ (lksA.length : Int) = lksB.length := by
   simp only [Bool.or_eq_false_iff, Bool.not_eq_false', decide_eq_true_eq] at hr0
   obtain ⟨⟨⟨⟨⟨q1, q2⟩, q3⟩, q4⟩, q5⟩, q6⟩ := hr0
   refine ⟨?_, q2, q3, q4, q5, q6⟩
   first | exact q1 | simpa using q1
  obtain ⟨q1, q2, q3, q4, q5, q6⟩ := hq
  have hiA := hA.ii.1; have hiB := hB.ii.1; have hlA := hA.ll.1; have hlB := hB.ll.1
  refine WC.skip ?_
  refine thenQ_n (hK2 _ _ ?_)
  refine WC.seq (fun K5 hK5 => ?_)
  refine WC.seq (fun K6 hK6 => ?_)
  refine WC.region ?_
  refine WL.op rfl (opW.assignI rfl ?_)
  refine WL.nil ?_
  refine thenQ_n (hK6 _ _ ?_)
  refine WC.block ?_
  refine WC.loop (fun q f w => ∃ k : Nat, Fits [(2, .pointer (some ⟨b2, 0, none⟩)), (3, .pointer (some ⟨b3, 0, none⟩)), (5, .int .i64 (k : Int))] f ∧ St w0 [blkE b3 (Enc.enc b) 32, blkE b2 (Enc.enc a) 32] w ∧ ca.ins.take k = cb.ins.take k ∧ k ≤ insA.length ∧ q = insA.length - k) (insA.length) ?_ ?_
  ·
   exact ⟨0, ⟨rfl, rfl, rfl, trivial⟩, hS, rfl, Nat.zero_le _, rfl⟩
  ·
   rintro q f w ⟨k, hfit, hS, ht, hk0, hm⟩
   refine WC.fits _ hfit (fun g => ?_)
   clear hfit
   refine WC.seq (fun K7 hK7 => ?_)
   refine WC.seq (fun K8 hK8 => ?_)
   refine WC.region ?_
   refine WL.op rfl (opW.moveI rfl ?_)
   refine WL.op rfl (opW.fieldAddrB rfl ?_)
   refine WL.op rfl (opW.loadV rfl (hS.ld1 (by repeat constructor) (Message.at_instrs a)) ?_)
   refine WL.op rfl (opW.lenV rfl ((hA.i.bel hS.old)) ?_)
   refine WL.op rfl (opW.lss rfl rfl ?_)
   refine WL.nil ?_
   refine thenQ_n (hK8 _ _ ?_)
   refine WC.cond _ rfl (fun hc1 => ?_) (fun hc1 => ?_)
   ·
    have hr1 := hc1
    try simp only [sq1,sq2,sq3,sq4,sq5,sq6,sq7,sq8,sq9,sq0] at hc1
    have hk1 : k < insA.length := by omega
    have hk2 : k < insB.length := by omega
    have hka : k < ca.ins.length := by omega
    have hkb : k < cb.ins.length := by omega
    have pA := hA.ii.2 k hk1 hka
    have pB := hB.ii.2 k hk2 hkb
    refine WC.skip ?_
    refine thenQ_n (hK7 _ _ ?_)
    refine WC.seq (fun K9 hK9 => ?_)
    refine WC.block ?_
    refine WC.seq (fun K10 hK10 => ?_)
    refine WC.draw 45 (.look 0 (.look 1 (.look 2 (.look 3 (.look 4 (.look 5 (.look 6 (.look 7 (.look 8 (.look 9 (.look 10 (.look 11 (.look 12 (.look 13 (.look 14 (.look 15 (.look 16 (.look 17 (.look 18 (.look 19 (.look 20 (.look 21 (.look 22 (.look 23 (.look 24 (.look 25 (.one 26 (.look 27 (.look 28 (.look 29 (.look 30 (.look 31 (.look 32 (.look 33 (.look 34 (.look 35 (.look 36 (.look 37 (.look 38 (.look 39 (.look 40 (.look 41 (.one 42 (.look 43 (.look 44 .nil))))))))))))))))))))))))))))))))))))))))))))) (by kernel_rfl) (fun _ _ _ h => h) (fun w1 hw1 => ?_)
    replace hS := hS.bel hw1
    have hS1 := hS
    have hT := St.start w1
    refine ML.look rfl rfl rfl (fun w hw => (by have hS := hS1.bel hw; exact opW.fieldAddrB rfl ⟨rfl, rfl⟩)) ?_
    refine ML.look rfl rfl rfl (fun w hw => (by have hS := hS1.bel hw; exact opW.loadV rfl (hS.ld1 (by repeat constructor) (Message.at_instrs a)) ⟨rfl, rfl⟩)) ?_
    refine ML.look rfl rfl rfl (fun w hw => (by have hS := hS1.bel hw; exact opW.moveI rfl ⟨rfl, rfl⟩)) ?_
    refine ML.look rfl rfl rfl (fun w hw => (by have hS := hS1.bel hw; exact opW.idxV rfl ((hA.i.bel hS.old)) rfl (by omega) ⟨rfl, rfl⟩)) ?_
    refine ML.look rfl rfl rfl (fun w hw => (by have hS := hS1.bel hw; exact opW.fieldAddr rfl ((hA.i.bel hS.old).isP hk1) ⟨rfl, rfl⟩)) ?_
    refine ML.look rfl rfl rfl (fun w hw => (by have hS := hS1.bel hw; exact opW.loadV rfl (Ld.pt1 ((hA.i.bel hS.old).isPt hk1) 0 (Instr.at_program _)) ⟨rfl, rfl⟩)) ?_
    refine ML.look rfl rfl rfl (fun w hw => (by have hS := hS1.bel hw; exact opW.fieldAddrB rfl ⟨rfl, rfl⟩)) ?_
    refine ML.look rfl rfl rfl (fun w hw => (by have hS := hS1.bel hw; exact opW.loadV rfl (hS.ld1 (by repeat constructor) (Message.at_instrs b)) ⟨rfl, rfl⟩)) ?_
    refine ML.look rfl rfl rfl (fun w hw => (by have hS := hS1.bel hw; exact opW.moveI rfl ⟨rfl, rfl⟩)) ?_
    refine ML.look rfl rfl rfl (fun w hw => (by have hS := hS1.bel hw; exact opW.idxV rfl ((hB.i.bel hS.old)) rfl (by omega) ⟨rfl, rfl⟩)) ?_
    refine ML.look rfl rfl rfl (fun w hw => (by have hS := hS1.bel hw; exact opW.fieldAddr rfl ((hB.i.bel hS.old).isP hk2) ⟨rfl, rfl⟩)) ?_
    refine ML.look rfl rfl rfl (fun w hw => (by have hS := hS1.bel hw; exact opW.loadV rfl (Ld.pt1 ((hB.i.bel hS.old).isPt hk2) 0 (Instr.at_program _)) ⟨rfl, rfl⟩)) ?_
    refine ML.look rfl rfl rfl (fun w hw => (by have hS := hS1.bel hw; exact opW.neq rfl rfl ⟨rfl, rfl⟩)) ?_
    refine ML.look rfl rfl rfl (fun w hw => (by have hS := hS1.bel hw; exact opW.moveB rfl ⟨rfl, rfl⟩)) ?_
    refine ML.lookG  _ 72 rfl rfl rfl rfl rfl rfl (fun hg73 w hw => (by have hS := hS1.bel hw; exact opW.fieldAddrB rfl ⟨rfl, rfl⟩)) ?_
    refine ML.lookG (E := a.instrs.v) _ 72 rfl rfl rfl rfl rfl rfl (fun hg74 w hw => (by have hS := hS1.bel hw; exact opW.loadV (by first | exact gv_of rfl hg74 | rfl) (hS.ld1 (by repeat constructor) (Message.at_instrs a)) ⟨rfl, rfl⟩)) ?_
    refine ML.lookG  _ 72 rfl rfl rfl rfl rfl rfl (fun hg75 w hw => (by have hS := hS1.bel hw; exact opW.moveI rfl ⟨rfl, rfl⟩)) ?_
    refine ML.lookG (E := (elemP a.instrs.v k (Enc.sz Instr))) _ 72 rfl rfl rfl rfl rfl rfl (fun hg76 w hw => (by have hS := hS1.bel hw; exact opW.idxV (by first | exact gv_of rfl hg76 | rfl) (hA.i.bel hS.old) (by first | exact gv_of rfl hg76 | rfl) (by omega) (k := .i64) (i := (k : Int)) (v := a.instrs.v) ⟨rfl, rfl⟩)) ?_
    refine ML.lookG (E := (ptrAdd (elemP a.instrs.v k (Enc.sz Instr)) 1)) _ 72 rfl rfl rfl rfl rfl rfl (fun hg77 w hw => (by have hS := hS1.bel hw; exact opW.fieldAddr (by first | exact gv_of rfl hg77 | rfl) ((hA.i.bel hS.old).isP hk1) ⟨rfl, rfl⟩)) ?_
    refine ML.lookG (E := insA[k].accounts.v) _ 72 rfl rfl rfl rfl rfl rfl (fun hg78 w hw => (by have hS := hS1.bel hw; exact opW.loadV (by first | exact gv_of rfl hg78 | rfl) (Ld.pt1 ((hA.i.bel hS.old).isPt hk1) 1 (Instr.at_accounts _)) ⟨rfl, rfl⟩)) ?_
    refine ML.lookG  _ 72 rfl rfl rfl rfl rfl rfl (fun hg79 w hw => (by have hS := hS1.bel hw; exact opW.fieldAddrB rfl ⟨rfl, rfl⟩)) ?_
    refine ML.lookG (E := b.instrs.v) _ 72 rfl rfl rfl rfl rfl rfl (fun hg80 w hw => (by have hS := hS1.bel hw; exact opW.loadV (by first | exact gv_of rfl hg80 | rfl) (hS.ld1 (by repeat constructor) (Message.at_instrs b)) ⟨rfl, rfl⟩)) ?_
    refine ML.lookG  _ 72 rfl rfl rfl rfl rfl rfl (fun hg81 w hw => (by have hS := hS1.bel hw; exact opW.moveI rfl ⟨rfl, rfl⟩)) ?_
    refine ML.lookG (E := (elemP b.instrs.v k (Enc.sz Instr))) _ 72 rfl rfl rfl rfl rfl rfl (fun hg82 w hw => (by have hS := hS1.bel hw; exact opW.idxV (by first | exact gv_of rfl hg82 | rfl) (hB.i.bel hS.old) (by first | exact gv_of rfl hg82 | rfl) (by omega) (k := .i64) (i := (k : Int)) (v := b.instrs.v) ⟨rfl, rfl⟩)) ?_
    refine ML.lookG (E := (ptrAdd (elemP b.instrs.v k (Enc.sz Instr)) 1)) _ 72 rfl rfl rfl rfl rfl rfl (fun hg83 w hw => (by have hS := hS1.bel hw; exact opW.fieldAddr (by first | exact gv_of rfl hg83 | rfl) ((hB.i.bel hS.old).isP hk2) ⟨rfl, rfl⟩)) ?_
    refine ML.lookG (E := insB[k].accounts.v) _ 72 rfl rfl rfl rfl rfl rfl (fun hg84 w hw => (by have hS := hS1.bel hw; exact opW.loadV (by first | exact gv_of rfl hg84 | rfl) (Ld.pt1 ((hB.i.bel hS.old).isPt hk2) 1 (Instr.at_accounts _)) ⟨rfl, rfl⟩)) ?_
    refine ML.oneG ((.bool (decide (ca.ins[k].2.1 = cb.ins[k].2.1)))) _ 72 hT.old rfl rfl rfl rfl rfl rfl (fun hg85 => opW.call (same_b _ _ _ _ _ (pA.2.1.bel hS.old) (pB.2.1.bel hS.old)) (args2 (by first | exact gv_of rfl hg85 | rfl) (by first | exact gv_of rfl hg85 | rfl)) (fun _ _ h => h)) (fun w hw => ?_)
    replace hT := hT.bel hw
    have hS := hS1.merge hT
    try simp only [List.cons_append, List.nil_append] at hS
    refine ML.lookG  _ 72 rfl rfl rfl rfl rfl rfl (fun hg86 w hw => (by have hS := hS1.bel hw; exact opW.not (by first | exact gv_of rfl hg86 | rfl) ⟨rfl, rfl⟩)) ?_
    refine ML.look rfl rfl rfl (fun w hw => (by have hS := hS1.bel hw; exact opW.pickOr rfl rfl (by first | rfl) ⟨rfl, rfl⟩)) ?_
    refine ML.look rfl rfl rfl (fun w hw => (by have hS := hS1.bel hw; exact opW.moveB rfl ⟨rfl, rfl⟩)) ?_
    refine ML.lookG  _ 88 rfl rfl rfl rfl rfl rfl (fun hg89 w hw => (by have hS := hS1.bel hw; exact opW.fieldAddrB rfl ⟨rfl, rfl⟩)) ?_
    refine ML.lookG (E := a.instrs.v) _ 88 rfl rfl rfl rfl rfl rfl (fun hg90 w hw => (by have hS := hS1.bel hw; exact opW.loadV (by first | exact gv_of rfl hg90 | rfl) (hS.ld1 (by repeat constructor) (Message.at_instrs a)) ⟨rfl, rfl⟩)) ?_
    refine ML.lookG  _ 88 rfl rfl rfl rfl rfl rfl (fun hg91 w hw => (by have hS := hS1.bel hw; exact opW.moveI rfl ⟨rfl, rfl⟩)) ?_
    refine ML.lookG (E := (elemP a.instrs.v k (Enc.sz Instr))) _ 88 rfl rfl rfl rfl rfl rfl (fun hg92 w hw => (by have hS := hS1.bel hw; exact opW.idxV (by first | exact gv_of rfl hg92 | rfl) (hA.i.bel hS.old) (by first | exact gv_of rfl hg92 | rfl) (by omega) (k := .i64) (i := (k : Int)) (v := a.instrs.v) ⟨rfl, rfl⟩)) ?_
    refine ML.lookG (E := (ptrAdd (elemP a.instrs.v k (Enc.sz Instr)) 2)) _ 88 rfl rfl rfl rfl rfl rfl (fun hg93 w hw => (by have hS := hS1.bel hw; exact opW.fieldAddr (by first | exact gv_of rfl hg93 | rfl) ((hA.i.bel hS.old).isP hk1) ⟨rfl, rfl⟩)) ?_
    refine ML.lookG (E := insA[k].data.v) _ 88 rfl rfl rfl rfl rfl rfl (fun hg94 w hw => (by have hS := hS1.bel hw; exact opW.loadV (by first | exact gv_of rfl hg94 | rfl) (Ld.pt1 ((hA.i.bel hS.old).isPt hk1) 2 (Instr.at_data _)) ⟨rfl, rfl⟩)) ?_
    refine ML.lookG  _ 88 rfl rfl rfl rfl rfl rfl (fun hg95 w hw => (by have hS := hS1.bel hw; exact opW.fieldAddrB rfl ⟨rfl, rfl⟩)) ?_
    refine ML.lookG (E := b.instrs.v) _ 88 rfl rfl rfl rfl rfl rfl (fun hg96 w hw => (by have hS := hS1.bel hw; exact opW.loadV (by first | exact gv_of rfl hg96 | rfl) (hS.ld1 (by repeat constructor) (Message.at_instrs b)) ⟨rfl, rfl⟩)) ?_
    refine ML.lookG  _ 88 rfl rfl rfl rfl rfl rfl (fun hg97 w hw => (by have hS := hS1.bel hw; exact opW.moveI rfl ⟨rfl, rfl⟩)) ?_
    refine ML.lookG (E := (elemP b.instrs.v k (Enc.sz Instr))) _ 88 rfl rfl rfl rfl rfl rfl (fun hg98 w hw => (by have hS := hS1.bel hw; exact opW.idxV (by first | exact gv_of rfl hg98 | rfl) (hB.i.bel hS.old) (by first | exact gv_of rfl hg98 | rfl) (by omega) (k := .i64) (i := (k : Int)) (v := b.instrs.v) ⟨rfl, rfl⟩)) ?_
    refine ML.lookG (E := (ptrAdd (elemP b.instrs.v k (Enc.sz Instr)) 2)) _ 88 rfl rfl rfl rfl rfl rfl (fun hg99 w hw => (by have hS := hS1.bel hw; exact opW.fieldAddr (by first | exact gv_of rfl hg99 | rfl) ((hB.i.bel hS.old).isP hk2) ⟨rfl, rfl⟩)) ?_
    refine ML.lookG (E := insB[k].data.v) _ 88 rfl rfl rfl rfl rfl rfl (fun hg100 w hw => (by have hS := hS1.bel hw; exact opW.loadV (by first | exact gv_of rfl hg100 | rfl) (Ld.pt1 ((hB.i.bel hS.old).isPt hk2) 2 (Instr.at_data _)) ⟨rfl, rfl⟩)) ?_
    refine ML.oneG ((.bool (decide (ca.ins[k].2.2 = cb.ins[k].2.2)))) _ 88 hT.old rfl rfl rfl rfl rfl rfl (fun hg101 => opW.call (same_b _ _ _ _ _ (pA.2.2.bel hS.old) (pB.2.2.bel hS.old)) (args2 (by first | exact gv_of rfl hg101 | rfl) (by first | exact gv_of rfl hg101 | rfl)) (fun _ _ h => h)) (fun w hw => ?_)
    replace hT := hT.bel hw
    have hS := hS1.merge hT
    try simp only [List.cons_append, List.nil_append] at hS
    refine ML.lookG  _ 88 rfl rfl rfl rfl rfl rfl (fun hg102 w hw => (by have hS := hS1.bel hw; exact opW.not (by first | exact gv_of rfl hg102 | rfl) ⟨rfl, rfl⟩)) ?_
    refine ML.look rfl rfl rfl (fun w hw => (by have hS := hS1.bel hw; exact opW.pickOr rfl rfl (by first | rfl) ⟨rfl, rfl⟩)) ?_
    refine ML.nil ?_
    refine thenQ_n (hK10 _ _ ?_)
    refine WC.cond _ rfl (fun hc2 => ?_) (fun hc2 => ?_)
    ·
     have hr2 := hc2
     try simp only [sq1,sq2,sq3,sq4,sq5,sq6,sq7,sq8,sq9,sq0] at hc2
     refine WC.seq (fun K11 hK11 => ?_)
     refine WC.region ?_
     refine WL.op rfl (opW.assignB rfl ?_)
     refine WL.nil ?_
     refine thenQ_n (hK11 _ _ ?_)
     refine WC.ret ?_
     refine blockQ_r ?_
     refine thenQ_r ?_
     refine thenQ_r ?_
     refine blockQ_r ?_
     refine thenQ_r ?_
     refine bodyQ_ret (.tmpB rfl .nil) ?_
     refine ⟨?_, hS.old⟩
     have hne : ca ≠ cb := by
      intro e
      subst e
      rw [pA.1, pB.1] at hr2
      simp at hr2
     rw [decide_eq_false hne]
     rfl
    ·
     have hr2 := hc2
     try simp only [sq1,sq2,sq3,sq4,sq5,sq6,sq7,sq8,sq9,sq0] at hc2
     refine WC.skip ?_
     refine blockQ_n ?_
     refine thenQ_n (hK9 _ _ ?_)
     refine WC.region ?_
     refine WL.op rfl (opW.moveI rfl ?_)
     refine WL.op rfl (opW.add rfl rfl (wrap_i64 (by omega)) ?_)
     refine WL.op rfl (opW.assignI rfl ?_)
     refine WL.nil ?_
     refine thenQ_n ?_
     refine ⟨insA.length - (k + 1), by omega, k + 1, ⟨rfl, rfl, congrArg (Value.int .i64) (by omega), trivial⟩, hS, take_succ_eq ht hka hkb ?_, by omega, rfl⟩
     have hq : insA[k].program = insB[k].program ∧ ca.ins[k].2.1 = cb.ins[k].2.1 ∧ ca.ins[k].2.2 = cb.ins[k].2.2 := by
      have := hr2
      simp [and_assoc] at this
      refine ⟨?_, this.2.1, this.2.2⟩
      first | exact this.1 | exact UInt8.toNat_inj.1 (by omega)
     obtain ⟨e1, e2, e3⟩ := hq
     exact Prod.ext (by rw [← pA.1, ← pB.1, e1]) (Prod.ext e2 e3)
   ·
    have hr1 := hc1
    try simp only [sq1,sq2,sq3,sq4,sq5,sq6,sq7,sq8,sq9,sq0] at hc1
    have hii : ca.ins = cb.ins := take_all ht hiA hiB (by omega) (by omega)
    refine WC.exit ?_
    refine thenQ_e ?_
    refine thenQ_e ?_
    refine blockQ_hit ?_
    refine thenQ_n (hK5 _ _ ?_)
    refine WC.seq (fun K12 hK12 => ?_)
    refine WC.seq (fun K13 hK13 => ?_)
    refine WC.region ?_
    refine WL.op rfl (opW.assignI rfl ?_)
    refine WL.nil ?_
    refine thenQ_n (hK13 _ _ ?_)
    refine WC.block ?_
    refine WC.loop (fun q f w => ∃ k : Nat, Fits [(2, .pointer (some ⟨b2, 0, none⟩)), (3, .pointer (some ⟨b3, 0, none⟩)), (6, .int .i64 (k : Int))] f ∧ St w0 [blkE b3 (Enc.enc b) 32, blkE b2 (Enc.enc a) 32] w ∧ ca.lks.take k = cb.lks.take k ∧ k ≤ lksA.length ∧ q = lksA.length - k) (lksA.length) ?_ ?_
    ·
     exact ⟨0, ⟨rfl, rfl, rfl, trivial⟩, hS, rfl, Nat.zero_le _, rfl⟩
    ·
     rintro q f w ⟨k, hfit, hS, ht, hk0, hm⟩
     refine WC.fits _ hfit (fun g => ?_)
     clear hfit
     refine WC.seq (fun K14 hK14 => ?_)
     refine WC.seq (fun K15 hK15 => ?_)
     refine WC.region ?_
     refine WL.op rfl (opW.moveI rfl ?_)
     refine WL.op rfl (opW.fieldAddrB rfl ?_)
     refine WL.op rfl (opW.loadV rfl (hS.ld1 (by repeat constructor) (Message.at_lookups a)) ?_)
     refine WL.op rfl (opW.lenV rfl ((hA.l.bel hS.old)) ?_)
     refine WL.op rfl (opW.lss rfl rfl ?_)
     refine WL.nil ?_
     refine thenQ_n (hK15 _ _ ?_)
     refine WC.cond _ rfl (fun hc3 => ?_) (fun hc3 => ?_)
     ·
      have hr3 := hc3
      try simp only [sq1,sq2,sq3,sq4,sq5,sq6,sq7,sq8,sq9,sq0] at hc3
      have hk1 : k < lksA.length := by omega
      have hk2 : k < lksB.length := by omega
      have hka : k < ca.lks.length := by omega
      have hkb : k < cb.lks.length := by omega
      have pA := hA.ll.2 k hk1 hka
      have pB := hB.ll.2 k hk2 hkb
      refine WC.skip ?_
      refine thenQ_n (hK14 _ _ ?_)
      refine WC.seq (fun K16 hK16 => ?_)
      refine WC.block ?_
      refine WC.seq (fun K17 hK17 => ?_)
      refine WC.draw 45 (.look 0 (.look 1 (.look 2 (.look 3 (.look 4 (.look 5 (.look 6 (.look 7 (.look 8 (.look 9 (.look 10 (.look 11 (.look 12 (.look 13 (.look 14 (.look 15 (.look 16 (.look 17 (.look 18 (.look 19 (.look 20 (.look 21 (.look 22 (.look 23 (.look 24 (.look 25 (.one 26 (.look 27 (.look 28 (.look 29 (.look 30 (.look 31 (.look 32 (.look 33 (.look 34 (.look 35 (.look 36 (.look 37 (.look 38 (.look 39 (.look 40 (.look 41 (.one 42 (.look 43 (.look 44 .nil))))))))))))))))))))))))))))))))))))))))))))) (by kernel_rfl) (fun _ _ _ h => h) (fun w1 hw1 => ?_)
      replace hS := hS.bel hw1
      have hS1 := hS
      have hT := St.start w1
      refine ML.look rfl rfl rfl (fun w hw => (by have hS := hS1.bel hw; exact opW.fieldAddrB rfl ⟨rfl, rfl⟩)) ?_
      refine ML.look rfl rfl rfl (fun w hw => (by have hS := hS1.bel hw; exact opW.loadV rfl (hS.ld1 (by repeat constructor) (Message.at_lookups a)) ⟨rfl, rfl⟩)) ?_
      refine ML.look rfl rfl rfl (fun w hw => (by have hS := hS1.bel hw; exact opW.moveI rfl ⟨rfl, rfl⟩)) ?_
      refine ML.look rfl rfl rfl (fun w hw => (by have hS := hS1.bel hw; exact opW.idxV rfl ((hA.l.bel hS.old)) rfl (by omega) ⟨rfl, rfl⟩)) ?_
      refine ML.look rfl rfl rfl (fun w hw => (by have hS := hS1.bel hw; exact opW.fieldAddr rfl ((hA.l.bel hS.old).isP hk1) ⟨rfl, rfl⟩)) ?_
      refine ML.look rfl rfl rfl (fun w hw => (by have hS := hS1.bel hw; exact opW.loadV rfl (Ld.ptA ((hA.l.bel hS.old).isPt hk1) 0 (Lookup.ex_table _) (by rw [Enc.size_eq]; decide)) ⟨rfl, rfl⟩)) ?_
      refine ML.look rfl rfl rfl (fun w hw => (by have hS := hS1.bel hw; exact opW.fieldAddrB rfl ⟨rfl, rfl⟩)) ?_
      refine ML.look rfl rfl rfl (fun w hw => (by have hS := hS1.bel hw; exact opW.loadV rfl (hS.ld1 (by repeat constructor) (Message.at_lookups b)) ⟨rfl, rfl⟩)) ?_
      refine ML.look rfl rfl rfl (fun w hw => (by have hS := hS1.bel hw; exact opW.moveI rfl ⟨rfl, rfl⟩)) ?_
      refine ML.look rfl rfl rfl (fun w hw => (by have hS := hS1.bel hw; exact opW.idxV rfl ((hB.l.bel hS.old)) rfl (by omega) ⟨rfl, rfl⟩)) ?_
      refine ML.look rfl rfl rfl (fun w hw => (by have hS := hS1.bel hw; exact opW.fieldAddr rfl ((hB.l.bel hS.old).isP hk2) ⟨rfl, rfl⟩)) ?_
      refine ML.look rfl rfl rfl (fun w hw => (by have hS := hS1.bel hw; exact opW.loadV rfl (Ld.ptA ((hB.l.bel hS.old).isPt hk2) 0 (Lookup.ex_table _) (by rw [Enc.size_eq]; decide)) ⟨rfl, rfl⟩)) ?_
      refine ML.look rfl rfl rfl (fun w hw => (by have hS := hS1.bel hw; exact opW.neqE rfl rfl ⟨rfl, rfl⟩)) ?_
      refine ML.look rfl rfl rfl (fun w hw => (by have hS := hS1.bel hw; exact opW.moveB rfl ⟨rfl, rfl⟩)) ?_
      refine ML.lookG  _ 124 rfl rfl rfl rfl rfl rfl (fun hg125 w hw => (by have hS := hS1.bel hw; exact opW.fieldAddrB rfl ⟨rfl, rfl⟩)) ?_
      refine ML.lookG (E := a.lookups.v) _ 124 rfl rfl rfl rfl rfl rfl (fun hg126 w hw => (by have hS := hS1.bel hw; exact opW.loadV (by first | exact gv_of rfl hg126 | rfl) (hS.ld1 (by repeat constructor) (Message.at_lookups a)) ⟨rfl, rfl⟩)) ?_
      refine ML.lookG  _ 124 rfl rfl rfl rfl rfl rfl (fun hg127 w hw => (by have hS := hS1.bel hw; exact opW.moveI rfl ⟨rfl, rfl⟩)) ?_
      refine ML.lookG (E := (elemP a.lookups.v k (Enc.sz Lookup))) _ 124 rfl rfl rfl rfl rfl rfl (fun hg128 w hw => (by have hS := hS1.bel hw; exact opW.idxV (by first | exact gv_of rfl hg128 | rfl) (hA.l.bel hS.old) (by first | exact gv_of rfl hg128 | rfl) (by omega) (k := .i64) (i := (k : Int)) (v := a.lookups.v) ⟨rfl, rfl⟩)) ?_
      refine ML.lookG (E := (ptrAdd (elemP a.lookups.v k (Enc.sz Lookup)) 32)) _ 124 rfl rfl rfl rfl rfl rfl (fun hg129 w hw => (by have hS := hS1.bel hw; exact opW.fieldAddr (by first | exact gv_of rfl hg129 | rfl) ((hA.l.bel hS.old).isP hk1) ⟨rfl, rfl⟩)) ?_
      refine ML.lookG (E := lksA[k].writes.v) _ 124 rfl rfl rfl rfl rfl rfl (fun hg130 w hw => (by have hS := hS1.bel hw; exact opW.loadV (by first | exact gv_of rfl hg130 | rfl) (Ld.pt1 ((hA.l.bel hS.old).isPt hk1) 32 (Lookup.at_writes _)) ⟨rfl, rfl⟩)) ?_
      refine ML.lookG  _ 124 rfl rfl rfl rfl rfl rfl (fun hg131 w hw => (by have hS := hS1.bel hw; exact opW.fieldAddrB rfl ⟨rfl, rfl⟩)) ?_
      refine ML.lookG (E := b.lookups.v) _ 124 rfl rfl rfl rfl rfl rfl (fun hg132 w hw => (by have hS := hS1.bel hw; exact opW.loadV (by first | exact gv_of rfl hg132 | rfl) (hS.ld1 (by repeat constructor) (Message.at_lookups b)) ⟨rfl, rfl⟩)) ?_
      refine ML.lookG  _ 124 rfl rfl rfl rfl rfl rfl (fun hg133 w hw => (by have hS := hS1.bel hw; exact opW.moveI rfl ⟨rfl, rfl⟩)) ?_
      refine ML.lookG (E := (elemP b.lookups.v k (Enc.sz Lookup))) _ 124 rfl rfl rfl rfl rfl rfl (fun hg134 w hw => (by have hS := hS1.bel hw; exact opW.idxV (by first | exact gv_of rfl hg134 | rfl) (hB.l.bel hS.old) (by first | exact gv_of rfl hg134 | rfl) (by omega) (k := .i64) (i := (k : Int)) (v := b.lookups.v) ⟨rfl, rfl⟩)) ?_
      refine ML.lookG (E := (ptrAdd (elemP b.lookups.v k (Enc.sz Lookup)) 32)) _ 124 rfl rfl rfl rfl rfl rfl (fun hg135 w hw => (by have hS := hS1.bel hw; exact opW.fieldAddr (by first | exact gv_of rfl hg135 | rfl) ((hB.l.bel hS.old).isP hk2) ⟨rfl, rfl⟩)) ?_
      refine ML.lookG (E := lksB[k].writes.v) _ 124 rfl rfl rfl rfl rfl rfl (fun hg136 w hw => (by have hS := hS1.bel hw; exact opW.loadV (by first | exact gv_of rfl hg136 | rfl) (Ld.pt1 ((hB.l.bel hS.old).isPt hk2) 32 (Lookup.at_writes _)) ⟨rfl, rfl⟩)) ?_
      refine ML.oneG ((.bool (decide (ca.lks[k].2.1 = cb.lks[k].2.1)))) _ 124 hT.old rfl rfl rfl rfl rfl rfl (fun hg137 => opW.call (same_b _ _ _ _ _ (pA.2.1.bel hS.old) (pB.2.1.bel hS.old)) (args2 (by first | exact gv_of rfl hg137 | rfl) (by first | exact gv_of rfl hg137 | rfl)) (fun _ _ h => h)) (fun w hw => ?_)
      replace hT := hT.bel hw
      have hS := hS1.merge hT
      try simp only [List.cons_append, List.nil_append] at hS
      refine ML.lookG  _ 124 rfl rfl rfl rfl rfl rfl (fun hg138 w hw => (by have hS := hS1.bel hw; exact opW.not (by first | exact gv_of rfl hg138 | rfl) ⟨rfl, rfl⟩)) ?_
      refine ML.look rfl rfl rfl (fun w hw => (by have hS := hS1.bel hw; exact opW.pickOr rfl rfl (by first | rfl) ⟨rfl, rfl⟩)) ?_
      refine ML.look rfl rfl rfl (fun w hw => (by have hS := hS1.bel hw; exact opW.moveB rfl ⟨rfl, rfl⟩)) ?_
      refine ML.lookG  _ 140 rfl rfl rfl rfl rfl rfl (fun hg141 w hw => (by have hS := hS1.bel hw; exact opW.fieldAddrB rfl ⟨rfl, rfl⟩)) ?_
      refine ML.lookG (E := a.lookups.v) _ 140 rfl rfl rfl rfl rfl rfl (fun hg142 w hw => (by have hS := hS1.bel hw; exact opW.loadV (by first | exact gv_of rfl hg142 | rfl) (hS.ld1 (by repeat constructor) (Message.at_lookups a)) ⟨rfl, rfl⟩)) ?_
      refine ML.lookG  _ 140 rfl rfl rfl rfl rfl rfl (fun hg143 w hw => (by have hS := hS1.bel hw; exact opW.moveI rfl ⟨rfl, rfl⟩)) ?_
      refine ML.lookG (E := (elemP a.lookups.v k (Enc.sz Lookup))) _ 140 rfl rfl rfl rfl rfl rfl (fun hg144 w hw => (by have hS := hS1.bel hw; exact opW.idxV (by first | exact gv_of rfl hg144 | rfl) (hA.l.bel hS.old) (by first | exact gv_of rfl hg144 | rfl) (by omega) (k := .i64) (i := (k : Int)) (v := a.lookups.v) ⟨rfl, rfl⟩)) ?_
      refine ML.lookG (E := (ptrAdd (elemP a.lookups.v k (Enc.sz Lookup)) 33)) _ 140 rfl rfl rfl rfl rfl rfl (fun hg145 w hw => (by have hS := hS1.bel hw; exact opW.fieldAddr (by first | exact gv_of rfl hg145 | rfl) ((hA.l.bel hS.old).isP hk1) ⟨rfl, rfl⟩)) ?_
      refine ML.lookG (E := lksA[k].reads.v) _ 140 rfl rfl rfl rfl rfl rfl (fun hg146 w hw => (by have hS := hS1.bel hw; exact opW.loadV (by first | exact gv_of rfl hg146 | rfl) (Ld.pt1 ((hA.l.bel hS.old).isPt hk1) 33 (Lookup.at_reads _)) ⟨rfl, rfl⟩)) ?_
      refine ML.lookG  _ 140 rfl rfl rfl rfl rfl rfl (fun hg147 w hw => (by have hS := hS1.bel hw; exact opW.fieldAddrB rfl ⟨rfl, rfl⟩)) ?_
      refine ML.lookG (E := b.lookups.v) _ 140 rfl rfl rfl rfl rfl rfl (fun hg148 w hw => (by have hS := hS1.bel hw; exact opW.loadV (by first | exact gv_of rfl hg148 | rfl) (hS.ld1 (by repeat constructor) (Message.at_lookups b)) ⟨rfl, rfl⟩)) ?_
      refine ML.lookG  _ 140 rfl rfl rfl rfl rfl rfl (fun hg149 w hw => (by have hS := hS1.bel hw; exact opW.moveI rfl ⟨rfl, rfl⟩)) ?_
      refine ML.lookG (E := (elemP b.lookups.v k (Enc.sz Lookup))) _ 140 rfl rfl rfl rfl rfl rfl (fun hg150 w hw => (by have hS := hS1.bel hw; exact opW.idxV (by first | exact gv_of rfl hg150 | rfl) (hB.l.bel hS.old) (by first | exact gv_of rfl hg150 | rfl) (by omega) (k := .i64) (i := (k : Int)) (v := b.lookups.v) ⟨rfl, rfl⟩)) ?_
      refine ML.lookG (E := (ptrAdd (elemP b.lookups.v k (Enc.sz Lookup)) 33)) _ 140 rfl rfl rfl rfl rfl rfl (fun hg151 w hw => (by have hS := hS1.bel hw; exact opW.fieldAddr (by first | exact gv_of rfl hg151 | rfl) ((hB.l.bel hS.old).isP hk2) ⟨rfl, rfl⟩)) ?_
      refine ML.lookG (E := lksB[k].reads.v) _ 140 rfl rfl rfl rfl rfl rfl (fun hg152 w hw => (by have hS := hS1.bel hw; exact opW.loadV (by first | exact gv_of rfl hg152 | rfl) (Ld.pt1 ((hB.l.bel hS.old).isPt hk2) 33 (Lookup.at_reads _)) ⟨rfl, rfl⟩)) ?_
      refine ML.oneG ((.bool (decide (ca.lks[k].2.2 = cb.lks[k].2.2)))) _ 140 hT.old rfl rfl rfl rfl rfl rfl (fun hg153 => opW.call (same_b _ _ _ _ _ (pA.2.2.bel hS.old) (pB.2.2.bel hS.old)) (args2 (by first | exact gv_of rfl hg153 | rfl) (by first | exact gv_of rfl hg153 | rfl)) (fun _ _ h => h)) (fun w hw => ?_)
      replace hT := hT.bel hw
      have hS := hS1.merge hT
      try simp only [List.cons_append, List.nil_append] at hS
      refine ML.lookG  _ 140 rfl rfl rfl rfl rfl rfl (fun hg154 w hw => (by have hS := hS1.bel hw; exact opW.not (by first | exact gv_of rfl hg154 | rfl) ⟨rfl, rfl⟩)) ?_
      refine ML.look rfl rfl rfl (fun w hw => (by have hS := hS1.bel hw; exact opW.pickOr rfl rfl (by first | rfl) ⟨rfl, rfl⟩)) ?_
      refine ML.nil ?_
      refine thenQ_n (hK17 _ _ ?_)
      refine WC.cond _ rfl (fun hc4 => ?_) (fun hc4 => ?_)
      ·
       have hr4 := hc4
       try simp only [sq1,sq2,sq3,sq4,sq5,sq6,sq7,sq8,sq9,sq0] at hc4
       refine WC.seq (fun K18 hK18 => ?_)
       refine WC.region ?_
       refine WL.op rfl (opW.assignB rfl ?_)
       refine WL.nil ?_
       refine thenQ_n (hK18 _ _ ?_)
       refine WC.ret ?_
       refine blockQ_r ?_
       refine thenQ_r ?_
       refine thenQ_r ?_
       refine blockQ_r ?_
       refine thenQ_r ?_
       refine bodyQ_ret (.tmpB rfl .nil) ?_
       refine ⟨?_, hS.old⟩
       have hne : ca ≠ cb := by
        intro e
        subst e
        rw [pA.1, pB.1] at hr4
        simp at hr4
       rw [decide_eq_false hne]
       rfl
      ·
       have hr4 := hc4
       try simp only [sq1,sq2,sq3,sq4,sq5,sq6,sq7,sq8,sq9,sq0] at hc4
       refine WC.skip ?_
       refine blockQ_n ?_
       refine thenQ_n (hK16 _ _ ?_)
       refine WC.region ?_
       refine WL.op rfl (opW.moveI rfl ?_)
       refine WL.op rfl (opW.add rfl rfl (wrap_i64 (by omega)) ?_)
       refine WL.op rfl (opW.assignI rfl ?_)
       refine WL.nil ?_
       refine thenQ_n ?_
       refine ⟨lksA.length - (k + 1), by omega, k + 1, ⟨rfl, rfl, congrArg (Value.int .i64) (by omega), trivial⟩, hS, take_succ_eq ht hka hkb ?_, by omega, rfl⟩
       have hq : lksA[k].table = lksB[k].table ∧ ca.lks[k].2.1 = cb.lks[k].2.1 ∧ ca.lks[k].2.2 = cb.lks[k].2.2 := by
        have := hr4
        simpa [and_assoc] using this
       obtain ⟨e1, e2, e3⟩ := hq
       exact Prod.ext (by rw [← pA.1, ← pB.1, e1]) (Prod.ext e2 e3)
     ·
      have hr3 := hc3
      try simp only [sq1,sq2,sq3,sq4,sq5,sq6,sq7,sq8,sq9,sq0] at hc3
      have hlk : ca.lks = cb.lks := take_all ht hlA hlB (by omega) (by omega)
      refine WC.exit ?_
      refine thenQ_e ?_
      refine thenQ_e ?_
      refine blockQ_hit ?_
      refine thenQ_n (hK12 _ _ ?_)
      refine WC.seq (fun K19 hK19 => ?_)
      refine WC.region ?_
      refine WL.op rfl (opW.assignB rfl ?_)
      refine WL.nil ?_
      refine thenQ_n (hK19 _ _ ?_)
      refine WC.ret ?_
      refine bodyQ_ret (.tmpB rfl .nil) ?_
      refine ⟨?_, hS.old⟩
      rw [decide_eq_true]
      ·rfl
      have g1 := hA.v0; have g2 := hA.h; have g3 := hA.recent; have g4 := hB.v0; have g5 := hB.h; have g6 := hB.recent
      cases ca; cases cb
      simp only [MC.mk.injEq] at *
      exact ⟨by rw [← g1, ← g4, q1], by rw [← g2, ← g5, q2], q4, by rw [← g3, ← g6, q3], hii, hlk⟩

end Go.Fer
