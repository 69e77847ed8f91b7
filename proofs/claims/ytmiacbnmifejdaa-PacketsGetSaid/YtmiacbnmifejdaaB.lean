/- a message and what it holds -/
import Derived.Test.YtmiacbnmifejdaaA
import Derived.Test.YtmiacbnmifejdaaWides
set_option linter.all false
namespace Go.Fer
open Go Go.Proofs Go.RowKit

/-- what a message holds -/
structure MC where
  v0 : Bool
  h : Header
  keys : List (Vector UInt8 32)
  recent : Vector UInt8 32
  ins : List (UInt8 × List UInt8 × List UInt8)
  lks : List (Vector UInt8 32 × List UInt8 × List UInt8)
deriving DecidableEq
def IsI (w : World) (x : Instr) (c : UInt8 × List UInt8 × List UInt8) : Prop := x.program = c.1 ∧ SlR w x.accounts.v c.2.1 ∧ SlR w x.data.v c.2.2
def IsL (w : World) (x : Lookup) (c : Vector UInt8 32 × List UInt8 × List UInt8) : Prop := x.table = c.1 ∧ SlR w x.writes.v c.2.1 ∧ SlR w x.reads.v c.2.2
theorem IsI.bel {w w' : World} {x : Instr} {c : UInt8 × List UInt8 × List UInt8} (h : IsI w x c) (hb : Bel w w') : IsI w' x c := ⟨h.1, h.2.1.bel hb, h.2.2.bel hb⟩
theorem IsL.bel {w w' : World} {x : Lookup} {c : Vector UInt8 32 × List UInt8 × List UInt8} (h : IsL w x c) (hb : Bel w w') : IsL w' x c := ⟨h.1, h.2.1.bel hb, h.2.2.bel hb⟩
def IsIs (w : World) (l : List Instr) (c : List (UInt8 × List UInt8 × List UInt8)) : Prop := l.length = c.length ∧ ∀ i (h1 : i < l.length) (h2 : i < c.length), IsI w l[i] c[i]
def IsLs (w : World) (l : List Lookup) (c : List (Vector UInt8 32 × List UInt8 × List UInt8)) : Prop := l.length = c.length ∧ ∀ i (h1 : i < l.length) (h2 : i < c.length), IsL w l[i] c[i]
theorem IsIs.bel {w w' : World} {l : List Instr} {c : List (UInt8 × List UInt8 × List UInt8)} (h : IsIs w l c) (hb : Bel w w') : IsIs w' l c := ⟨h.1, fun i h1 h2 => (h.2 i h1 h2).bel hb⟩
theorem IsLs.bel {w w' : World} {l : List Lookup} {c : List (Vector UInt8 32 × List UInt8 × List UInt8)} (h : IsLs w l c) (hb : Bel w w') : IsLs w' l c := ⟨h.1, fun i h1 h2 => (h.2 i h1 h2).bel hb⟩
/-- a message with its lists of structs -/
structure IsM (w : World) (m : Message) (c : MC) (ins : List Instr) (lks : List Lookup) : Prop where
  v0 : m.v0 = c.v0
  h : m.header = c.h
  recent : m.recent = c.recent
  k : SlR w m.keys.v c.keys
  i : SlR w m.instrs.v ins
  ii : IsIs w ins c.ins
  l : SlR w m.lookups.v lks
  ll : IsLs w lks c.lks
theorem IsM.bel {w w' : World} {m : Message} {c : MC} {ins : List Instr} {lks : List Lookup} (h : IsM w m c ins lks) (hb : Bel w w') : IsM w' m c ins lks :=
  ⟨h.v0, h.h, h.recent, h.k.bel hb, h.i.bel hb, h.ii.bel hb, h.l.bel hb, h.ll.bel hb⟩
theorem isIs_of {w : World} : ∀ {ins : List Instr}, (∀ e ∈ ins, Instr.okz w e) → ∃ c, IsIs w ins c
  | [], _ => ⟨[], rfl, fun i h => by cases h⟩
  | x :: ins, h => by
    obtain ⟨c, h1, h2⟩ := isIs_of (ins := ins) (fun e he => h e (List.mem_cons_of_mem _ he))
    obtain ⟨⟨la, ha, _⟩, ⟨ld, hd, _⟩⟩ := h x List.mem_cons_self
    refine ⟨(x.program, la, ld) :: c, by simp [h1], fun i g1 g2 => ?_⟩
    cases i with
    | zero => exact ⟨rfl, ha, hd⟩
    | succ i => exact h2 i (by simpa using g1) (by simpa using g2)
theorem isLs_of {w : World} : ∀ {lks : List Lookup}, (∀ e ∈ lks, Lookup.okz w e) → ∃ c, IsLs w lks c
  | [], _ => ⟨[], rfl, fun i h => by cases h⟩
  | x :: lks, h => by
    obtain ⟨c, h1, h2⟩ := isLs_of (lks := lks) (fun e he => h e (List.mem_cons_of_mem _ he))
    obtain ⟨⟨la, ha, _⟩, ⟨ld, hd, _⟩⟩ := h x List.mem_cons_self
    refine ⟨(x.table, la, ld) :: c, by simp [h1], fun i g1 g2 => ?_⟩
    cases i with
    | zero => exact ⟨rfl, ha, hd⟩
    | succ i => exact h2 i (by simpa using g1) (by simpa using g2)
/-- how many bytes lists of pairs have -/
def sumB {α : Type} (l : List (α × List UInt8 × List UInt8)) : Nat := (l.map fun c => c.2.1.length + c.2.2.length).sum
theorem sumB_step {α : Type} {l : List (α × List UInt8 × List UInt8)} {k : Nat} (hk : k < l.length) : sumB (l.take (k + 1)) = sumB (l.take k) + (l[k].2.1.length + l[k].2.2.length) := by
  unfold sumB; rw [List.take_succ_eq_append_getElem hk, List.map_append, List.sum_append]; simp
theorem sumB_ge {α : Type} {l : List (α × List UInt8 × List UInt8)} {k : Nat} (hk : k < l.length) : l[k].2.1.length + l[k].2.2.length ≤ sumB l := by
  induction l generalizing k with
  | nil => cases hk
  | cons x l ih =>
    cases k with
    | zero => simp [sumB]
    | succ k => have := ih (k := k) (by simpa using hk); simp only [sumB, List.map_cons, List.sum_cons, List.getElem_cons_succ] at this ⊢; omega
def MC.size (c : MC) : Nat := c.keys.length + c.ins.length + c.lks.length + sumB c.ins + sumB c.lks
theorem okz_isM {w : World} {m : Message} (hm : m.okz w) : ∃ c ins lks, IsM w m c ins lks ∧ c.keys.length ≤ 140737488351232 ∧ ins.length ≤ 140737488351232 ∧ lks.length ≤ 140737488351232 ∧ (∀ i (h : i < c.ins.length), c.ins[i].2.1.length ≤ 140737488351232 ∧ c.ins[i].2.2.length ≤ 140737488351232) ∧ (∀ i (h : i < c.lks.length), c.lks[i].2.1.length ≤ 140737488351232 ∧ c.lks[i].2.2.length ≤ 140737488351232) := by
  obtain ⟨_, ⟨keys, hk, hk1, _⟩, ⟨ins, hi, hi1, hi2⟩, ⟨lks, hl, hl1, hl2⟩⟩ := hm
  obtain ⟨ci, hci⟩ := isIs_of hi2
  obtain ⟨cl, hcl⟩ := isLs_of hl2
  refine ⟨⟨m.v0, m.header, keys, m.recent, ci, cl⟩, ins, lks, ⟨rfl, rfl, rfl, hk, hi, hci, hl, hcl⟩, by show keys.length ≤ _; omega, by omega, by omega, fun i h => ?_, fun i h => ?_⟩
  · have h1 : i < ins.length := by have := hci.1; have h : i < ci.length := h; omega
    obtain ⟨_, g1, g2⟩ := hci.2 i h1 h
    obtain ⟨⟨la, ha, ha1, _⟩, ⟨ld, hd, hd1, _⟩⟩ := hi2 _ (List.getElem_mem h1)
    refine ⟨?_, ?_⟩
    · rw [← lenV_eq g1, lenV_eq ha]; omega
    · rw [← lenV_eq g2, lenV_eq hd]; omega
  · have h1 : i < lks.length := by have := hcl.1; have h : i < cl.length := h; omega
    obtain ⟨_, g1, g2⟩ := hcl.2 i h1 h
    obtain ⟨⟨la, ha, ha1, _⟩, ⟨ld, hd, hd1, _⟩⟩ := hl2 _ (List.getElem_mem h1)
    refine ⟨?_, ?_⟩
    · rw [← lenV_eq g1, lenV_eq ha]; omega
    · rw [← lenV_eq g2, lenV_eq hd]; omega

section
variable {P : Program} {f : Fr} {w : World} {R : Value → World → Prop} {d : Option Tmp} {T : TypeId} {pos : String} {af : Array Edge} {gd : Option (Nat × Bool)}
theorem opW.max3N {x y z : Operand} {k : IntKind} {a b c : Nat} {ts : Array TypeId} (hx : ev f x = .int k (a : Int)) (hy : ev f y = .int k (b : Int)) (hz : ev f z = .int k (c : Int)) (h : R (.int k ((max (max a b) c : Nat) : Int)) w) :
    opW P f ⟨d, .call { callee := .builtin .max, args := #[x, y, z], argTypes := ts }, T, pos, af, gd⟩ w R := by
  have e1 : (if (a : Int) < (b : Int) then (b : Int) else (a : Int)) = ((max a b : Nat) : Int) := by split <;> omega
  have e2 : (if ((max a b : Nat) : Int) < (c : Int) then (c : Int) else ((max a b : Nat) : Int)) = ((max (max a b) c : Nat) : Int) := by split <;> omega
  refine opW.of_run (v := .int k ((max (max a b) c : Nat) : Int)) (w' := w) ?_ h
  simp [execOp, resolve, Go.invoke, builtin, Builtin.max_, Builtin.max2, hx, hy, hz]
  split <;> split <;> omega
end
/-- the longest of lists -/
def longs {α : Type} (a : Nat) (l : List (α × List UInt8 × List UInt8)) : Nat := l.foldl (fun n e => max (max n e.2.1.length) e.2.2.length) a
theorem longs_step {α : Type} (a : Nat) {l : List (α × List UInt8 × List UInt8)} {k : Nat} (hk : k < l.length) : longs a (l.take (k + 1)) = max (max (longs a (l.take k)) l[k].2.1.length) l[k].2.2.length := by
  unfold longs; rw [List.take_succ_eq_append_getElem hk, List.foldl_append]; rfl
def longM (c : MC) : Nat := longs (longs (max (max c.keys.length c.ins.length) c.lks.length) c.ins) c.lks
def mayF (c : MC) : Bool := decide (longM c ≤ 65535) && (c.v0 || (decide (c.lks.length = 0) && decide (c.h.signers.toNat < 128)))

theorem may_ok (w0 : World) (m : Message) (c : MC) (ins : List Instr) (lks : List Lookup) (hc : IsM w0 m c ins lks) : Ret Try.prog 50 #[.agg (Enc.enc m)] w0 (fun u w' => u = .bool (mayF c) ∧ Bel w0 w') := by
  refine Ret.enter (args := [.agg (Enc.enc m)]) Try.func50 rfl Try.ntmps50 Try.results50 rfl ?_
  have hS := St.start w0
  have hil := hc.ii.1
  have hll := hc.ll.1
  have hib := hc.i.le
  have hlb := hc.l.le
  simp only [maxLen] at hib hlb
  refine WC.seq (fun K1 hK1 => ?_)
  refine WC.region ?_
  refine WL.op rfl (opW.boxA hS rfl ?_)
  intro b1 w _ hS
  refine WL.op rfl (opW.assignB rfl ?_)
  refine WL.nil ?_
  refine thenQ_n (hK1 _ _ ?_)
  refine WC.seq (fun K2 hK2 => ?_)
  refine WC.region ?_
  refine WL.op rfl (opW.fieldAddrB rfl ?_)
  refine WL.op rfl (opW.loadV rfl (hS.ld1 (by first | exact .h0 | exact .h1 | exact .h2 | exact .h3 | exact .h4 | exact .h5 | exact .h6 | exact .h7 | exact .h8 | exact .h9 | exact .h10 | exact .h11 | exact .h12 | exact .h13 | exact .h14) (Message.at_keys m)) ?_)
  refine WL.op rfl (opW.lenV rfl ((hc.k.bel hS.old)) ?_)
  refine WL.op rfl (opW.fieldAddrB rfl ?_)
  refine WL.op rfl (opW.loadV rfl (hS.ld1 (by first | exact .h0 | exact .h1 | exact .h2 | exact .h3 | exact .h4 | exact .h5 | exact .h6 | exact .h7 | exact .h8 | exact .h9 | exact .h10 | exact .h11 | exact .h12 | exact .h13 | exact .h14) (Message.at_instrs m)) ?_)
  refine WL.op rfl (opW.lenV rfl ((hc.i.bel hS.old)) ?_)
  refine WL.op rfl (opW.fieldAddrB rfl ?_)
  refine WL.op rfl (opW.loadV rfl (hS.ld1 (by first | exact .h0 | exact .h1 | exact .h2 | exact .h3 | exact .h4 | exact .h5 | exact .h6 | exact .h7 | exact .h8 | exact .h9 | exact .h10 | exact .h11 | exact .h12 | exact .h13 | exact .h14) (Message.at_lookups m)) ?_)
  refine WL.op rfl (opW.lenV rfl ((hc.l.bel hS.old)) ?_)
  refine WL.op rfl (opW.max3N rfl rfl rfl ?_)
  refine WL.op rfl (opW.assignI rfl ?_)
  refine WL.nil ?_
  refine thenQ_n (hK2 _ _ ?_)
  refine WC.seq (fun K3 hK3 => ?_)
  refine WC.seq (fun K4 hK4 => ?_)
  refine WC.region ?_
  refine WL.op rfl (opW.fieldAddrB rfl ?_)
  refine WL.op rfl (opW.loadV rfl (hS.ld1 (by first | exact .h0 | exact .h1 | exact .h2 | exact .h3 | exact .h4 | exact .h5 | exact .h6 | exact .h7 | exact .h8 | exact .h9 | exact .h10 | exact .h11 | exact .h12 | exact .h13 | exact .h14) (Message.at_instrs m)) ?_)
  refine WL.op rfl (opW.lenV rfl ((hc.i.bel hS.old)) ?_)
  refine WL.op rfl (opW.moveI rfl ?_)
  refine WL.nil ?_
  refine thenQ_n (hK4 _ _ ?_)
  refine WC.block ?_
  refine WC.loop (fun q f w => ∃ k : Nat, Fits [(1, .pointer (some ⟨b1, 0, none⟩)), (3, .int .i64 (longs (max (max c.keys.length c.ins.length) c.lks.length) (c.ins.take k) : Nat)), (19, m.instrs.v), (20, .int .i64 (ins.length : Int)), (21, .int .i64 (k : Int))] f ∧ St w0 [blkE b1 (Enc.enc m) 31] w ∧ k ≤ ins.length ∧ q = ins.length - k) (ins.length) ?_ ?_
  ·
    exact ⟨0, ⟨rfl, (by rw [hil, hll]; rfl), rfl, rfl, rfl, trivial⟩, hS, Nat.zero_le _, rfl⟩
  ·
    rintro q f w ⟨k, hfit, hS, hk0, hm⟩
    refine WC.fits _ hfit (fun g => ?_)
    clear hfit
    refine WC.seq (fun K5 hK5 => ?_)
    refine WC.region ?_
    refine WL.op rfl (opW.lss rfl rfl ?_)
    refine WL.nil ?_
    refine thenQ_n (hK5 _ _ ?_)
    refine WC.seq (fun K6 hK6 => ?_)
    refine WC.cond _ rfl (fun hc0 => ?_) (fun hc0 => ?_)
    ·
      have hr0 := hc0
      try simp only [decide_eq_true_eq, decide_eq_false_iff_not, Bool.and_eq_true, Bool.or_eq_true, Bool.and_eq_false_iff, Bool.or_eq_false_iff, Bool.not_eq_true', Bool.not_eq_false', Int.not_lt, Int.not_le] at hc0
      have hkl : k < ins.length := by omega
      have hkc : k < c.ins.length := by omega
      obtain ⟨_, hla, hld⟩ := hc.ii.2 k hkl hkc
      have hst := longs_step (max (max c.keys.length c.ins.length) c.lks.length) hkc
      refine WC.skip ?_
      refine thenQ_n (hK6 _ _ ?_)
      refine WC.seq (fun K7 hK7 => ?_)
      refine WC.block ?_
      refine WC.seq (fun K8 hK8 => ?_)
      refine WC.region ?_
      refine WL.op rfl (opW.idxV rfl ((hc.i.bel hS.old)) rfl (by omega) ?_)
      refine WL.op rfl (opW.loadV rfl (((hc.i.bel hS.old).isPt hkl).ldA (Enc.size_eq ins[k])) ?_)
      refine WL.op rfl (opW.allocA hS ?_)
      intro b5 w _ hS
      refine WL.op0 (opW.storeE hS rfl rfl (by first | exact .h0 | exact .h1 | exact .h2 | exact .h3 | exact .h4 | exact .h5 | exact .h6 | exact .h7 | exact .h8 | exact .h9 | exact .h10 | exact .h11 | exact .h12 | exact .h13 | exact .h14) (by first | rfl | exact Enc.size_eq _) ?_)
      intro w hS; replace hS := hS _ (by first | exact .h0 | exact .h1 | exact .h2 | exact .h3 | exact .h4 | exact .h5 | exact .h6 | exact .h7 | exact .h8 | exact .h9 | exact .h10 | exact .h11 | exact .h12 | exact .h13 | exact .h14)
      refine WL.nil ?_
      refine thenQ_n (hK8 _ _ ?_)
      refine WC.region ?_
      refine WL.op rfl (opW.moveI rfl ?_)
      refine WL.op rfl (opW.fieldAddrB rfl ?_)
      refine WL.op rfl (opW.loadV rfl (hS.ld1 (by first | exact .h0 | exact .h1 | exact .h2 | exact .h3 | exact .h4 | exact .h5 | exact .h6 | exact .h7 | exact .h8 | exact .h9 | exact .h10 | exact .h11 | exact .h12 | exact .h13 | exact .h14) (Instr.at_accounts ins[k])) ?_)
      refine WL.op rfl (opW.lenV rfl ((hla.bel hS.old)) ?_)
      refine WL.op rfl (opW.fieldAddrB rfl ?_)
      refine WL.op rfl (opW.loadV rfl (hS.ld1 (by first | exact .h0 | exact .h1 | exact .h2 | exact .h3 | exact .h4 | exact .h5 | exact .h6 | exact .h7 | exact .h8 | exact .h9 | exact .h10 | exact .h11 | exact .h12 | exact .h13 | exact .h14) (Instr.at_data ins[k])) ?_)
      refine WL.op rfl (opW.lenV rfl ((hld.bel hS.old)) ?_)
      refine WL.op rfl (opW.max3N rfl rfl rfl ?_)
      refine WL.op rfl (opW.assignI rfl ?_)
      refine WL.nil ?_
      refine blockQ_n ?_
      refine thenQ_n (hK7 _ _ ?_)
      refine WC.region ?_
      refine WL.op rfl (opW.add rfl rfl (wrap_i64 (by omega)) ?_)
      refine WL.op rfl (opW.moveI rfl ?_)
      refine WL.nil ?_
      refine thenQ_n ?_
      exact ⟨ins.length - (k + 1), by omega, k + 1, ⟨rfl, congrArg (fun n : Nat => Value.int .i64 (n : Int)) hst.symm, rfl, rfl, congrArg (Value.int .i64) (by omega), trivial⟩, hS.sub (by repeat (first | with_reducible exact List.nil_sublist _ | with_reducible exact List.Sublist.refl _ | with_reducible refine List.Sublist.cons₂ _ ?_ | with_reducible refine List.Sublist.cons _ ?_)), by omega, rfl⟩
    ·
      have hr0 := hc0
      try simp only [decide_eq_true_eq, decide_eq_false_iff_not, Bool.and_eq_true, Bool.or_eq_true, Bool.and_eq_false_iff, Bool.or_eq_false_iff, Bool.not_eq_true', Bool.not_eq_false', Int.not_lt, Int.not_le] at hc0
      obtain rfl : k = ins.length := by omega
      rw [List.take_of_length_le (by omega)]
      refine WC.exit ?_
      refine thenQ_e ?_
      refine thenQ_e ?_
      refine blockQ_hit ?_
      refine thenQ_n (hK3 _ _ ?_)
      refine WC.seq (fun K9 hK9 => ?_)
      refine WC.seq (fun K10 hK10 => ?_)
      refine WC.region ?_
      refine WL.op rfl (opW.fieldAddrB rfl ?_)
      refine WL.op rfl (opW.loadV rfl (hS.ld1 (by first | exact .h0 | exact .h1 | exact .h2 | exact .h3 | exact .h4 | exact .h5 | exact .h6 | exact .h7 | exact .h8 | exact .h9 | exact .h10 | exact .h11 | exact .h12 | exact .h13 | exact .h14) (Message.at_lookups m)) ?_)
      refine WL.op rfl (opW.lenV rfl ((hc.l.bel hS.old)) ?_)
      refine WL.op rfl (opW.moveI rfl ?_)
      refine WL.nil ?_
      refine thenQ_n (hK10 _ _ ?_)
      refine WC.block ?_
      refine WC.loop (fun q f w => ∃ k : Nat, Fits [(1, .pointer (some ⟨b1, 0, none⟩)), (3, .int .i64 (longs (longs (max (max c.keys.length c.ins.length) c.lks.length) c.ins) (c.lks.take k) : Nat)), (35, m.lookups.v), (36, .int .i64 (lks.length : Int)), (37, .int .i64 (k : Int))] f ∧ St w0 [blkE b1 (Enc.enc m) 31] w ∧ k ≤ lks.length ∧ q = lks.length - k) (lks.length) ?_ ?_
      ·
        exact ⟨0, ⟨rfl, rfl, rfl, rfl, rfl, trivial⟩, hS, Nat.zero_le _, rfl⟩
      ·
        rintro q f w ⟨k, hfit, hS, hk0, hm⟩
        refine WC.fits _ hfit (fun g => ?_)
        clear hfit
        refine WC.seq (fun K11 hK11 => ?_)
        refine WC.region ?_
        refine WL.op rfl (opW.lss rfl rfl ?_)
        refine WL.nil ?_
        refine thenQ_n (hK11 _ _ ?_)
        refine WC.seq (fun K12 hK12 => ?_)
        refine WC.cond _ rfl (fun hc1 => ?_) (fun hc1 => ?_)
        ·
          have hr1 := hc1
          try simp only [decide_eq_true_eq, decide_eq_false_iff_not, Bool.and_eq_true, Bool.or_eq_true, Bool.and_eq_false_iff, Bool.or_eq_false_iff, Bool.not_eq_true', Bool.not_eq_false', Int.not_lt, Int.not_le] at hc1
          have hkl : k < lks.length := by omega
          have hkc : k < c.lks.length := by omega
          obtain ⟨_, hla, hld⟩ := hc.ll.2 k hkl hkc
          have hst := longs_step (longs (max (max c.keys.length c.ins.length) c.lks.length) c.ins) hkc
          refine WC.skip ?_
          refine thenQ_n (hK12 _ _ ?_)
          refine WC.seq (fun K13 hK13 => ?_)
          refine WC.block ?_
          refine WC.seq (fun K14 hK14 => ?_)
          refine WC.region ?_
          refine WL.op rfl (opW.idxV rfl ((hc.l.bel hS.old)) rfl (by omega) ?_)
          refine WL.op rfl (opW.loadV rfl (((hc.l.bel hS.old).isPt hkl).ldA (Enc.size_eq lks[k])) ?_)
          refine WL.op rfl (opW.allocA hS ?_)
          intro b7 w _ hS
          refine WL.op0 (opW.storeE hS rfl rfl (by first | exact .h0 | exact .h1 | exact .h2 | exact .h3 | exact .h4 | exact .h5 | exact .h6 | exact .h7 | exact .h8 | exact .h9 | exact .h10 | exact .h11 | exact .h12 | exact .h13 | exact .h14) (by first | rfl | exact Enc.size_eq _) ?_)
          intro w hS; replace hS := hS _ (by first | exact .h0 | exact .h1 | exact .h2 | exact .h3 | exact .h4 | exact .h5 | exact .h6 | exact .h7 | exact .h8 | exact .h9 | exact .h10 | exact .h11 | exact .h12 | exact .h13 | exact .h14)
          refine WL.nil ?_
          refine thenQ_n (hK14 _ _ ?_)
          refine WC.region ?_
          refine WL.op rfl (opW.moveI rfl ?_)
          refine WL.op rfl (opW.fieldAddrB rfl ?_)
          refine WL.op rfl (opW.loadV rfl (hS.ld1 (by first | exact .h0 | exact .h1 | exact .h2 | exact .h3 | exact .h4 | exact .h5 | exact .h6 | exact .h7 | exact .h8 | exact .h9 | exact .h10 | exact .h11 | exact .h12 | exact .h13 | exact .h14) (Lookup.at_writes lks[k])) ?_)
          refine WL.op rfl (opW.lenV rfl ((hla.bel hS.old)) ?_)
          refine WL.op rfl (opW.fieldAddrB rfl ?_)
          refine WL.op rfl (opW.loadV rfl (hS.ld1 (by first | exact .h0 | exact .h1 | exact .h2 | exact .h3 | exact .h4 | exact .h5 | exact .h6 | exact .h7 | exact .h8 | exact .h9 | exact .h10 | exact .h11 | exact .h12 | exact .h13 | exact .h14) (Lookup.at_reads lks[k])) ?_)
          refine WL.op rfl (opW.lenV rfl ((hld.bel hS.old)) ?_)
          refine WL.op rfl (opW.max3N rfl rfl rfl ?_)
          refine WL.op rfl (opW.assignI rfl ?_)
          refine WL.nil ?_
          refine blockQ_n ?_
          refine thenQ_n (hK13 _ _ ?_)
          refine WC.region ?_
          refine WL.op rfl (opW.add rfl rfl (wrap_i64 (by omega)) ?_)
          refine WL.op rfl (opW.moveI rfl ?_)
          refine WL.nil ?_
          refine thenQ_n ?_
          exact ⟨lks.length - (k + 1), by omega, k + 1, ⟨rfl, congrArg (fun n : Nat => Value.int .i64 (n : Int)) hst.symm, rfl, rfl, congrArg (Value.int .i64) (by omega), trivial⟩, hS.sub (by repeat (first | with_reducible exact List.nil_sublist _ | with_reducible exact List.Sublist.refl _ | with_reducible refine List.Sublist.cons₂ _ ?_ | with_reducible refine List.Sublist.cons _ ?_)), by omega, rfl⟩
        ·
          have hr1 := hc1
          try simp only [decide_eq_true_eq, decide_eq_false_iff_not, Bool.and_eq_true, Bool.or_eq_true, Bool.and_eq_false_iff, Bool.or_eq_false_iff, Bool.not_eq_true', Bool.not_eq_false', Int.not_lt, Int.not_le] at hc1
          obtain rfl : k = lks.length := by omega
          rw [List.take_of_length_le (by omega)]
          refine WC.exit ?_
          refine thenQ_e ?_
          refine thenQ_e ?_
          refine blockQ_hit ?_
          refine thenQ_n (hK9 _ _ ?_)
          refine WC.seq (fun K15 hK15 => ?_)
          refine WC.region ?_
          refine WL.op rfl (opW.moveI rfl ?_)
          refine WL.op rfl (opW.leq rfl rfl ?_)
          refine WL.op rfl (opW.moveB rfl ?_)
          refine WL.gd _ 52 _ rfl rfl rfl rfl (fun hg53 => opW.fieldAddrB rfl ⟨rfl, Bel.refl _⟩) (fun w hw => ?_)
          replace hS := hS.bel hw
          refine WL.gd _ 52 _ rfl rfl rfl rfl (fun hg54 => opW.loadV (by first | exact gv_of rfl hg54 | rfl) (hS.ld1 (by first | exact .h0 | exact .h1 | exact .h2 | exact .h3 | exact .h4 | exact .h5 | exact .h6 | exact .h7 | exact .h8 | exact .h9 | exact .h10 | exact .h11 | exact .h12 | exact .h13 | exact .h14) (Message.at_v0 m)) ⟨rfl, Bel.refl _⟩) (fun w hw => ?_)
          replace hS := hS.bel hw
          refine WL.gd _ 52 _ rfl rfl rfl rfl (fun hg55 => opW.moveB (by first | exact gv_of rfl hg55 | rfl) ⟨rfl, Bel.refl _⟩) (fun w hw => ?_)
          replace hS := hS.bel hw
          refine WL.gd2 _ _ 55 _ rfl rfl rfl rfl (fun hg56 => opW.fieldAddrB rfl ⟨rfl, Bel.refl _⟩) (fun w hw => ?_)
          replace hS := hS.bel hw
          refine WL.gd2 _ _ 55 _ rfl rfl rfl rfl (fun hg57 => opW.loadV (by first | exact gv_of rfl hg57 | rfl) (hS.ld1 (by first | exact .h0 | exact .h1 | exact .h2 | exact .h3 | exact .h4 | exact .h5 | exact .h6 | exact .h7 | exact .h8 | exact .h9 | exact .h10 | exact .h11 | exact .h12 | exact .h13 | exact .h14) (Message.at_lookups m)) ⟨rfl, Bel.refl _⟩) (fun w hw => ?_)
          replace hS := hS.bel hw
          refine WL.gd2 _ _ 55 _ rfl rfl rfl rfl (fun hg58 => opW.lenV (by first | exact gv_of rfl hg58 | rfl) ((hc.l.bel hS.old)) ⟨rfl, Bel.refl _⟩) (fun w hw => ?_)
          replace hS := hS.bel hw
          refine WL.gd2 _ _ 55 _ rfl rfl rfl rfl (fun hg59 => opW.eql (by first | exact gv_of rfl hg59 | rfl) rfl ⟨rfl, Bel.refl _⟩) (fun w hw => ?_)
          replace hS := hS.bel hw
          refine WL.gd2 _ _ 55 _ rfl rfl rfl rfl (fun hg60 => opW.moveB (by first | exact gv_of rfl hg60 | rfl) ⟨rfl, Bel.refl _⟩) (fun w hw => ?_)
          replace hS := hS.bel hw
          refine WL.gd2 _ _ 60 _ rfl rfl rfl rfl (fun hg61 => opW.fieldAddrB rfl ⟨rfl, Bel.refl _⟩) (fun w hw => ?_)
          replace hS := hS.bel hw
          refine WL.gd2 _ _ 60 _ rfl rfl rfl rfl (fun hg62 => opW.fieldAddrB (by first | exact gv_of rfl hg62 | rfl) ⟨rfl, Bel.refl _⟩) (fun w hw => ?_)
          replace hS := hS.bel hw
          refine WL.gd2 _ _ 60 _ rfl rfl rfl rfl (fun hg63 => opW.loadV (by first | exact gv_of rfl hg63 | rfl) (hS.ld1 (by first | exact .h0 | exact .h1 | exact .h2 | exact .h3 | exact .h4 | exact .h5 | exact .h6 | exact .h7 | exact .h8 | exact .h9 | exact .h10 | exact .h11 | exact .h12 | exact .h13 | exact .h14) (Message.at_header_signers m)) ⟨rfl, Bel.refl _⟩) (fun w hw => ?_)
          replace hS := hS.bel hw
          refine WL.gd2 _ _ 60 _ rfl rfl rfl rfl (fun hg64 => opW.lss (by first | exact gv_of rfl hg64 | rfl) rfl ⟨rfl, Bel.refl _⟩) (fun w hw => ?_)
          replace hS := hS.bel hw
          refine WL.gd2 _ _ 55 _ rfl rfl rfl rfl (fun hg65 => opW.pickAnd (by first | exact gv_of rfl hg65 | rfl) (by first | exact gv_and rfl hg65 | rfl) rfl ⟨rfl, Bel.refl _⟩) (fun w hw => ?_)
          replace hS := hS.bel hw
          refine WL.gd _ 52 _ rfl rfl rfl rfl (fun hg66 => opW.pickOr (by first | exact gv_of rfl hg66 | rfl) rfl (by first | exact gv_and rfl hg66 | rfl) ⟨rfl, Bel.refl _⟩) (fun w hw => ?_)
          replace hS := hS.bel hw
          refine WL.op rfl (opW.pickAnd rfl (by first | rfl) rfl ?_)
          refine WL.op rfl (opW.assignB rfl ?_)
          refine WL.nil ?_
          refine thenQ_n (hK15 _ _ ?_)
          refine WC.ret ?_
          refine bodyQ_ret (.tmpB rfl .nil) ?_
          refine ⟨congrArg Value.bool ?_, hS.old⟩
          unfold mayF longM
          rw [← hc.v0, ← hc.h, ← hll]
          have h1 : ∀ n : Nat, decide ((n : Int) ≤ 65535) = decide (n ≤ 65535) := fun n => decide_eq_decide.2 (by omega)
          have h2 : ∀ n : Nat, decide ((n : Int) < 128) = decide (n < 128) := fun n => decide_eq_decide.2 (by omega)
          simp [h1, h2]

end Go.Fer
