/- the document's tracker -/
import Derived.Test.YtinclpfoiljioaaC
set_option linter.all false
namespace Go.Fer
open Go Go.Proofs Go.RowKit

theorem Asked.okz.ok {w : World} {x : Asked} (h : Asked.okz w x) : Asked.ok w x := by
  obtain ⟨h1, h2, ⟨l, h3, _, h4⟩⟩ := h
  exact ⟨h1, h2, ⟨l, h3, h4⟩⟩
/-- the document's tracker: limits, and what was added -/
structure RfD where
  lim : Limits
  v : SlV
  l : List (Added × List Key)
def kEs (l : List (Added × List Key)) : List Ent := l.map fun x => ownE x.1.keys.v 27 x.2
@[irreducible] def rfE (p : Nat) (d : RfD) : Ent := starE (blkE p (Enc.enc (RfS.mk d.lim d.v)) 53 :: ownE d.v.v 57 (d.l.map Prod.fst) :: kEs d.l)
theorem St.rfOpen {w0 w : World} {S : List Ent} {p : Nat} {d : RfD} (h : St w0 (rfE p d :: S) w) : St w0 (blkE p (Enc.enc (RfS.mk d.lim d.v)) 53 :: ownE d.v.v 57 (d.l.map Prod.fst) :: (kEs d.l ++ S)) w := by
  unfold rfE at h
  exact h.opened
theorem St.rfClose {w0 w : World} {S : List Ent} {p : Nat} (d : RfD) (h : St w0 (blkE p (Enc.enc (RfS.mk d.lim d.v)) 53 :: ownE d.v.v 57 (d.l.map Prod.fst) :: (kEs d.l ++ S)) w) : St w0 (rfE p d :: S) w := by
  unfold rfE
  exact St.closed (l := blkE p (Enc.enc (RfS.mk d.lim d.v)) 53 :: ownE d.v.v 57 (d.l.map Prod.fst) :: kEs d.l) h
def RfAt (w : World) (p : Nat) (d : RfD) : Prop := Pt w (.pointer (some ⟨p, 0, none⟩)) (Enc.enc (RfS.mk d.lim d.v)) ∧ SlR w d.v.v (d.l.map Prod.fst) ∧ ∀ i (h : i < d.l.length), SlR w (d.l[i]'h).1.keys.v (d.l[i]'h).2
theorem RfAt.bel {w w' : World} {p : Nat} {d : RfD} (h : RfAt w p d) (hb : Bel w w') : RfAt w' p d := ⟨h.1.bel hb, h.2.1.bel hb, fun i hi => (h.2.2 i hi).bel hb⟩
theorem St.rfAt {w0 w : World} {S : List Ent} {p : Nat} {d : RfD} (h : St w0 S w) (he : Has (rfE p d) S) : RfAt w p d := by
  have h1 := h.get he
  unfold rfE at h1
  rw [starE_A] at h1
  refine ⟨?_, ?_, fun i hi => ?_⟩
  · have := h1.2 (blkE p (Enc.enc (RfS.mk d.lim d.v)) 53) List.mem_cons_self
    unfold blkE at this
    exact Pt.blk this
  · have := h1.2 (ownE d.v.v 57 (d.l.map Prod.fst)) (List.mem_cons_of_mem _ List.mem_cons_self)
    rw [ownE_A] at this; exact this.sl
  · have := h1.2 (ownE d.l[i].1.keys.v 27 d.l[i].2) (List.mem_cons_of_mem _ (List.mem_cons_of_mem _ (List.mem_map.2 ⟨d.l[i], List.getElem_mem hi, rfl⟩)))
    rw [ownE_A] at this; exact this.sl
theorem fold_step {α : Type} {f : Nat → α → Nat} {l : List α} {k : Nat} (hk : k < l.length) : (l.take (k + 1)).foldl f 0 = f ((l.take k).foldl f 0) l[k] := by
  rw [List.take_succ_eq_append_getElem hk, List.foldl_append]; rfl
theorem fold_lt {α : Type} {f : Nat → α → Nat} (hf : ∀ n x, n < 18446744073709551616 → f n x < 18446744073709551616) : ∀ (l : List α) (n : Nat), n < 18446744073709551616 → l.foldl f n < 18446744073709551616
  | [], n, h => h
  | x :: l, n, h => fold_lt hf l _ (hf n x h)
def fB (n : Nat) (x : Added × List Key) : Nat := sumH n x.1.cost
def fP (n : Nat) (x : Added × List Key) : Nat := sumH n x.1.space
def fO (k : Key) (n : Nat) (x : Added × List Key) : Nat := if k ∈ x.2 then sumH n x.1.cost else n
def rB (l : List (Added × List Key)) : Nat := l.foldl fB 0
def rP (l : List (Added × List Key)) : Nat := l.foldl fP 0
def rO (k : Key) (l : List (Added × List Key)) : Nat := l.foldl (fO k) 0
theorem fB_lt (l : List (Added × List Key)) : l.foldl fB 0 < 18446744073709551616 := fold_lt (fun n x _ => sumH_lt _ _) l 0 (by decide)
theorem fP_lt (l : List (Added × List Key)) : l.foldl fP 0 < 18446744073709551616 := fold_lt (fun n x _ => sumH_lt _ _) l 0 (by decide)
theorem fO_lt (k : Key) (l : List (Added × List Key)) : l.foldl (fO k) 0 < 18446744073709551616 := fold_lt (fun n x h => by unfold fO; split; exact sumH_lt _ _; exact h) l 0 (by decide)
def okA (l : List (Added × List Key)) : Prop := ∀ x ∈ l, x.1.cost < 18446744073709551616 ∧ x.1.space < 18446744073709551616
/-- may it be added? by the document -/
def wouldR (d : RfD) (cost : Nat) (keys : List Key) (space : Nat) : Int :=
  if d.lim.block < sumH (rB d.l) cost then 24 else if keys.any (fun k => decide (d.lim.account < sumH (rO k d.l) cost)) = true then 25 else if d.lim.space < sumH (rP d.l) space then 26 else 0
def RelT (d : TrD) (r : RfD) : Prop := d.lim = r.lim ∧ d.block = rB r.l ∧ d.space = rP r.l ∧ ∀ k, d.ofK k = rO k r.l
theorem RelT.would {d : TrD} {r : RfD} (h : RelT d r) (cost : Nat) (keys : List Key) (space : Nat) : wouldR r cost keys space = wouldC d cost keys space := by
  obtain ⟨h1, h2, h3, h4⟩ := h
  unfold wouldR wouldC
  rw [h1, h2, h3]
  simp only [h4]
theorem RelT.step {d d' : TrD} {r r' : RfD} {cost space : Nat} {keys : List Key} {a : Added} (h : RelT d r) (ha : AddIs d cost keys space d') (h1 : r'.lim = r.lim) (h2 : r'.l = r.l ++ [(a, keys)]) (h3 : a.cost = cost) (h4 : a.space = space) : RelT d' r' := by
  obtain ⟨g1, g2, g3, g4⟩ := h
  obtain ⟨a1, a2, a3, a4⟩ := ha
  subst h3; subst h4
  refine ⟨by rw [a1, g1, h1], ?_, ?_, fun k => ?_⟩
  · rw [a2, g2, h2]; unfold rB; rw [List.foldl_append]; rfl
  · rw [a3, g3, h2]; unfold rP; rw [List.foldl_append]; rfl
  · rw [a4, g4, h2]; unfold rO; rw [List.foldl_append]; rfl
theorem add_perm {K S : List Ent} {x a b : Ent} : (x :: a :: b :: (K ++ S)).Perm (a :: b :: ((K ++ [x]) ++ S)) := by
  have h := (List.perm_middle (l₁ := a :: b :: K) (a := x) (l₂ := S)).symm
  rw [List.append_assoc]
  exact h

theorem rsum_ok (w0 : World) (a b : Nat) (ha : a < 18446744073709551616) (hb : b < 18446744073709551616) : Ret Try.prog 23 #[.int .u64 ((a : Nat) : Int), .int .u64 ((b : Nat) : Int)] w0 (fun u w' => u = .int .u64 ((sumH a b : Nat) : Int) ∧ Bel w0 w') := by
  refine Ret.enter (args := [.int .u64 ((a : Nat) : Int), .int .u64 ((b : Nat) : Int)]) Try.func23 rfl Try.ntmps23 Try.results23 rfl ?_
  have hS := St.start w0
  refine WC.seq (fun K1 hK1 => ?_)
  refine WC.region ?_
  refine WL.op rfl (opW.assignI rfl ?_)
  refine WL.nil ?_
  refine thenQ_n (hK1 _ _ ?_)
  refine WC.seq (fun K2 hK2 => ?_)
  refine WC.seq (fun K3 hK3 => ?_)
  refine WC.region ?_
  refine WL.op rfl (opW.moveI rfl ?_)
  refine WL.op rfl (opW.moveI rfl ?_)
  refine WL.op rfl (opW.add rfl rfl (wrap_u64_add _ _) ?_)
  refine WL.op rfl (opW.moveI rfl ?_)
  refine WL.op rfl (opW.lss rfl rfl ?_)
  refine WL.nil ?_
  refine thenQ_n (hK3 _ _ ?_)
  refine WC.cond _ rfl (fun hc0 => ?_) (fun hc0 => ?_)
  ·
    have hr0 := hc0
    try simp only [decide_eq_true_eq, decide_eq_false_iff_not, Bool.and_eq_true, Bool.or_eq_true, Bool.and_eq_false_iff, Bool.or_eq_false_iff, Bool.not_eq_true', Bool.not_eq_false', Int.not_lt, Int.not_le] at hc0
    refine WC.seq (fun K4 hK4 => ?_)
    refine WC.region ?_
    refine WL.op rfl (opW.assignI rfl ?_)
    refine WL.nil ?_
    refine thenQ_n (hK4 _ _ ?_)
    refine WC.ret ?_
    refine thenQ_r ?_
    refine bodyQ_ret (.tmpI rfl .nil) ?_
    refine ⟨?_, hS.old⟩
    rw [show sumH a b = 18446744073709551615 from by unfold sumH; rw [if_neg (by omega)]]
    rfl
  ·
    have hr0 := hc0
    try simp only [decide_eq_true_eq, decide_eq_false_iff_not, Bool.and_eq_true, Bool.or_eq_true, Bool.and_eq_false_iff, Bool.or_eq_false_iff, Bool.not_eq_true', Bool.not_eq_false', Int.not_lt, Int.not_le] at hc0
    refine WC.skip ?_
    refine thenQ_n (hK2 _ _ ?_)
    refine WC.seq (fun K5 hK5 => ?_)
    refine WC.region ?_
    refine WL.op rfl (opW.moveI rfl ?_)
    refine WL.op rfl (opW.moveI rfl ?_)
    refine WL.op rfl (opW.add rfl rfl (wrap_u64_add _ _) ?_)
    refine WL.op rfl (opW.assignI rfl ?_)
    refine WL.nil ?_
    refine thenQ_n (hK5 _ _ ?_)
    refine WC.ret ?_
    refine bodyQ_ret (.tmpI rfl .nil) ?_
    refine ⟨?_, hS.old⟩
    rw [show sumH a b = (a + b) % 18446744073709551616 from by unfold sumH; rw [if_pos (by omega), Nat.mod_eq_of_lt (by omega)]]
    rfl

theorem rin_ok (w0 : World) (k : Key) (v : Value) (l : List Key) (hx : SlR w0 v l) : Ret Try.prog 24 #[.agg (Enc.enc k), v] w0 (fun u w' => u = .bool (decide (k ∈ l)) ∧ Bel w0 w') := by
  refine Ret.enter (args := [.agg (Enc.enc k), v]) Try.func24 rfl Try.ntmps24 Try.results24 rfl ?_
  have hS := St.start w0
  refine WC.seq (fun K1 hK1 => ?_)
  refine WC.region ?_
  refine WL.op rfl (opW.boxA hS rfl ?_)
  intro b2 w _ hS
  refine WL.op rfl (opW.assignB rfl ?_)
  refine WL.nil ?_
  refine thenQ_n (hK1 _ _ ?_)
  refine WC.seq (fun K2 hK2 => ?_)
  refine WC.seq (fun K3 hK3 => ?_)
  refine WC.region ?_
  refine WL.op rfl (opW.assignI rfl ?_)
  refine WL.nil ?_
  refine thenQ_n (hK3 _ _ ?_)
  refine WC.block ?_
  refine WC.loop (fun q f w => ∃ j : Nat, Fits [(1, v), (2, .pointer (some ⟨b2, 0, none⟩)), (5, .int .i64 (j : Int))] f ∧ St w0 [blkE b2 (Enc.enc k) 27] w ∧ (∀ i (hi : i < l.length), i < j → l[i] ≠ k) ∧ j ≤ l.length ∧ q = l.length - j) (l.length) ?_ ?_
  ·
    exact ⟨0, ⟨rfl, rfl, rfl, trivial⟩, hS, (fun i _ h => by omega), Nat.zero_le _, rfl⟩
  ·
    rintro q f w ⟨j, hfit, hS, hno, hj0, hm⟩
    refine WC.fits _ hfit (fun g => ?_)
    clear hfit
    refine WC.seq (fun K4 hK4 => ?_)
    refine WC.seq (fun K5 hK5 => ?_)
    refine WC.region ?_
    refine WL.op rfl (opW.moveI rfl ?_)
    refine WL.op rfl (opW.moveV (v := v) rfl ?_)
    refine WL.op rfl (opW.lenV rfl ((hx.bel hS.old)) ?_)
    refine WL.op rfl (opW.lss rfl rfl ?_)
    refine WL.nil ?_
    refine thenQ_n (hK5 _ _ ?_)
    refine WC.cond _ rfl (fun hc0 => ?_) (fun hc0 => ?_)
    ·
      have hr0 := hc0
      try simp only [decide_eq_true_eq, decide_eq_false_iff_not, Bool.and_eq_true, Bool.or_eq_true, Bool.and_eq_false_iff, Bool.or_eq_false_iff, Bool.not_eq_true', Bool.not_eq_false', Int.not_lt, Int.not_le] at hc0
      have hjl : j < l.length := by omega
      have hle := hx.le
      simp only [maxLen] at hle
      refine WC.skip ?_
      refine thenQ_n (hK4 _ _ ?_)
      refine WC.seq (fun K6 hK6 => ?_)
      refine WC.block ?_
      refine WC.seq (fun K7 hK7 => ?_)
      refine WC.draw 6 (.look 0 (.look 1 (.look 2 (.look 3 (.look 4 (.look 5 .nil)))))) (by kernel_rfl) (fun _ _ _ h => h) (fun w1 hw1 => ?_)
      replace hS := hS.bel hw1
      have hS1 := hS
      have hT := St.start w1
      refine ML.look rfl rfl rfl (fun w hw => (by have hS := hS1.bel hw; exact opW.moveV (v := v) rfl ⟨rfl, rfl⟩)) ?_
      refine ML.look rfl rfl rfl (fun w hw => (by have hS := hS1.bel hw; exact opW.moveI rfl ⟨rfl, rfl⟩)) ?_
      refine ML.look rfl rfl rfl (fun w hw => (by have hS := hS1.bel hw; exact opW.idxV rfl ((hx.bel hS.old)) rfl (by omega) ⟨rfl, rfl⟩)) ?_
      refine ML.look rfl rfl rfl (fun w hw => (by have hS := hS1.bel hw; exact opW.loadV rfl (((hx.bel hS.old).isPt hjl).ldA (Enc.size_eq l[j])) ⟨rfl, rfl⟩)) ?_
      refine ML.look rfl rfl rfl (fun w hw => (by have hS := hS1.bel hw; exact opW.loadV rfl (hS.ldA (cs := Enc.enc k) (by first | exact .here | exact .there (.here) | exact .there (.there (.here)) | exact .there (.there (.there (.here))) | exact .there (.there (.there (.there (.here)))) | exact .there (.there (.there (.there (.there (.here))))) | exact .there (.there (.there (.there (.there (.there (.here)))))) | exact .there (.there (.there (.there (.there (.there (.there (.here))))))) | exact .there (.there (.there (.there (.there (.there (.there (.there (.here)))))))) | exact .there (.there (.there (.there (.there (.there (.there (.there (.there (.here))))))))) | exact .there (.there (.there (.there (.there (.there (.there (.there (.there (.there (.here)))))))))) | exact .there (.there (.there (.there (.there (.there (.there (.there (.there (.there (.there (.here))))))))))) | exact .there (.there (.there (.there (.there (.there (.there (.there (.there (.there (.there (.there (.here))))))))))))) (Enc.size_eq _)) ⟨rfl, rfl⟩)) ?_
      refine ML.look rfl rfl rfl (fun w hw => (by have hS := hS1.bel hw; exact opW.eqlE (a := l[j]) (b := k) rfl rfl ⟨rfl, rfl⟩)) ?_
      refine ML.nil ?_
      refine thenQ_n (hK7 _ _ ?_)
      refine WC.cond _ rfl (fun hc1 => ?_) (fun hc1 => ?_)
      ·
        have hr1 := hc1
        try simp only [decide_eq_true_eq, decide_eq_false_iff_not, Bool.and_eq_true, Bool.or_eq_true, Bool.and_eq_false_iff, Bool.or_eq_false_iff, Bool.not_eq_true', Bool.not_eq_false', Int.not_lt, Int.not_le] at hc1
        refine WC.seq (fun K8 hK8 => ?_)
        refine WC.region ?_
        refine WL.op rfl (opW.assignB rfl ?_)
        refine WL.nil ?_
        refine thenQ_n (hK8 _ _ ?_)
        refine WC.ret ?_
        refine blockQ_r ?_
        refine thenQ_r ?_
        refine thenQ_r ?_
        refine blockQ_r ?_
        refine thenQ_r ?_
        refine bodyQ_ret (.tmpB rfl .nil) ?_
        refine ⟨congrArg Value.bool (decide_eq_true ?_).symm, hS.old⟩
        rw [← hc1]
        exact List.getElem_mem hjl
      ·
        have hr1 := hc1
        try simp only [decide_eq_true_eq, decide_eq_false_iff_not, Bool.and_eq_true, Bool.or_eq_true, Bool.and_eq_false_iff, Bool.or_eq_false_iff, Bool.not_eq_true', Bool.not_eq_false', Int.not_lt, Int.not_le] at hc1
        refine WC.skip ?_
        refine blockQ_n ?_
        refine thenQ_n (hK6 _ _ ?_)
        refine WC.region ?_
        refine WL.op rfl (opW.moveI rfl ?_)
        refine WL.op rfl (opW.add rfl rfl (wrap_i64 (by omega)) ?_)
        refine WL.op rfl (opW.assignI rfl ?_)
        refine WL.nil ?_
        refine thenQ_n ?_
        refine ⟨l.length - (j + 1), by omega, j + 1, ⟨rfl, rfl, congrArg (Value.int .i64) (by omega), trivial⟩, hS, (fun i hi hij => ?_), by omega, rfl⟩
        rcases Nat.lt_or_ge i j with h | h
        · exact hno i hi h
        · obtain rfl : i = j := by omega
          exact hc1
    ·
      have hr0 := hc0
      try simp only [decide_eq_true_eq, decide_eq_false_iff_not, Bool.and_eq_true, Bool.or_eq_true, Bool.and_eq_false_iff, Bool.or_eq_false_iff, Bool.not_eq_true', Bool.not_eq_false', Int.not_lt, Int.not_le] at hc0
      refine WC.exit ?_
      refine thenQ_e ?_
      refine thenQ_e ?_
      refine blockQ_hit ?_
      refine thenQ_n (hK2 _ _ ?_)
      refine WC.seq (fun K9 hK9 => ?_)
      refine WC.region ?_
      refine WL.op rfl (opW.assignB rfl ?_)
      refine WL.nil ?_
      refine thenQ_n (hK9 _ _ ?_)
      refine WC.ret ?_
      refine bodyQ_ret (.tmpB rfl .nil) ?_
      refine ⟨congrArg Value.bool (decide_eq_false ?_).symm, hS.old⟩
      intro hk
      obtain ⟨i, hi, h⟩ := List.getElem_of_mem hk
      exact hno i hi (by omega) h

theorem rblock_ok (w0 : World) (p : Nat) (d : RfD) (ha : RfAt w0 p d) (ho : okA d.l) : Ret Try.prog 17 #[.pointer (some ⟨p, 0, none⟩)] w0 (fun u w' => u = .int .u64 ((d.l.foldl fB 0 : Nat) : Int) ∧ Bel w0 w') := by
  refine Ret.enter (args := [.pointer (some ⟨p, 0, none⟩)]) Try.func17 rfl Try.ntmps17 Try.results17 rfl ?_
  have hS := St.start w0
  have hml : (d.l.map Prod.fst).length = d.l.length := List.length_map _
  refine WC.seq (fun K1 hK1 => ?_)
  refine WC.region ?_
  refine WL.op rfl (opW.assignI rfl ?_)
  refine WL.nil ?_
  refine thenQ_n (hK1 _ _ ?_)
  refine WC.seq (fun K2 hK2 => ?_)
  refine WC.region ?_
  refine WL.op rfl (opW.assignI rfl ?_)
  refine WL.nil ?_
  refine thenQ_n (hK2 _ _ ?_)
  refine WC.seq (fun K3 hK3 => ?_)
  refine WC.seq (fun K4 hK4 => ?_)
  refine WC.region ?_
  refine WL.op rfl (opW.assignI rfl ?_)
  refine WL.nil ?_
  refine thenQ_n (hK4 _ _ ?_)
  refine WC.block ?_
  refine WC.loop (fun q f w => ∃ k : Nat, Fits [(0, .pointer (some ⟨p, 0, none⟩)), (3, .int .u64 ((((d.l.take k).foldl fB 0) : Nat) : Int)), (4, .int .i64 (k : Int))] f ∧ St w0 [] w ∧ k ≤ d.l.length ∧ q = d.l.length - k) (d.l.length) ?_ ?_
  ·
    exact ⟨0, ⟨rfl, rfl, rfl, trivial⟩, hS, Nat.zero_le _, rfl⟩
  ·
    rintro q f w ⟨k, hfit, hS, hk0, hm⟩
    refine WC.fits _ hfit (fun g => ?_)
    clear hfit
    refine WC.seq (fun K5 hK5 => ?_)
    refine WC.seq (fun K6 hK6 => ?_)
    refine WC.region ?_
    refine WL.op rfl (opW.moveI rfl ?_)
    refine WL.op rfl (opW.moveV (v := .pointer (some ⟨p, 0, none⟩)) rfl ?_)
    refine WL.op rfl (opW.nilCheckB rfl ?_)
    refine WL.op rfl (opW.fieldAddrB rfl ?_)
    refine WL.op rfl (opW.loadV rfl ((ha.1.bel hS.old).at1 (RfS.at_l _)) ?_)
    refine WL.op rfl (opW.lenV rfl ((ha.2.1.bel hS.old)) ?_)
    refine WL.op rfl (opW.lss rfl rfl ?_)
    refine WL.nil ?_
    refine thenQ_n (hK6 _ _ ?_)
    refine WC.cond _ rfl (fun hc0 => ?_) (fun hc0 => ?_)
    ·
      have hr0 := hc0
      try simp only [decide_eq_true_eq, decide_eq_false_iff_not, Bool.and_eq_true, Bool.or_eq_true, Bool.and_eq_false_iff, Bool.or_eq_false_iff, Bool.not_eq_true', Bool.not_eq_false', Int.not_lt, Int.not_le] at hc0
      have hkl : k < d.l.length := by omega
      have hkm : k < (d.l.map Prod.fst).length := by omega
      have hox := ho _ (List.getElem_mem hkl)
      have hge : (d.l.map Prod.fst)[k] = d.l[k].1 := by simp
      have hle := ha.2.1.le
      simp only [maxLen] at hle
      refine WC.skip ?_
      refine thenQ_n (hK5 _ _ ?_)
      refine WC.seq (fun K7 hK7 => ?_)
      refine WC.block ?_
      refine WC.region ?_
      refine WL.op rfl (opW.moveI rfl ?_)
      refine WL.op rfl (opW.moveV (v := .pointer (some ⟨p, 0, none⟩)) rfl ?_)
      refine WL.op rfl (opW.nilCheckB rfl ?_)
      refine WL.op rfl (opW.fieldAddrB rfl ?_)
      refine WL.op rfl (opW.loadV rfl ((ha.1.bel hS.old).at1 (RfS.at_l _)) ?_)
      refine WL.op rfl (opW.moveI rfl ?_)
      refine WL.op rfl (opW.idxV rfl ((ha.2.1.bel hS.old)) rfl (by omega) ?_)
      refine WL.op rfl (opW.fieldAddr rfl ((ha.2.1.bel hS.old).isP hkm) ?_)
      refine WL.op rfl (opW.loadV rfl (Ld.pt1 ((ha.2.1.bel hS.old).isPt hkm) 0 ((Added.at_cost _).trans (by rw [hge]))) ?_)
      refine WL.op rfl (opW.call (rsum_ok _ ((d.l.take k).foldl fB 0) d.l[k].1.cost (fB_lt _) hox.1) rfl ?_)
      rintro _ w ⟨rfl, hw⟩; replace hS := hS.bel hw
      refine WL.op rfl (opW.assignI rfl ?_)
      refine WL.nil ?_
      refine blockQ_n ?_
      refine thenQ_n (hK7 _ _ ?_)
      refine WC.region ?_
      refine WL.op rfl (opW.moveI rfl ?_)
      refine WL.op rfl (opW.add rfl rfl (wrap_i64 (by omega)) ?_)
      refine WL.op rfl (opW.assignI rfl ?_)
      refine WL.nil ?_
      refine thenQ_n ?_
      exact ⟨d.l.length - (k + 1), by omega, k + 1, ⟨rfl, congrArg (fun n : Nat => Value.int .u64 (n : Int)) (fold_step (f := fB) hkl).symm, congrArg (Value.int .i64) (by omega), trivial⟩, hS, by omega, rfl⟩
    ·
      have hr0 := hc0
      try simp only [decide_eq_true_eq, decide_eq_false_iff_not, Bool.and_eq_true, Bool.or_eq_true, Bool.and_eq_false_iff, Bool.or_eq_false_iff, Bool.not_eq_true', Bool.not_eq_false', Int.not_lt, Int.not_le] at hc0
      obtain rfl : k = d.l.length := by omega
      rw [List.take_length]
      refine WC.exit ?_
      refine thenQ_e ?_
      refine thenQ_e ?_
      refine blockQ_hit ?_
      refine thenQ_n (hK3 _ _ ?_)
      refine WC.seq (fun K8 hK8 => ?_)
      refine WC.region ?_
      refine WL.op rfl (opW.moveI rfl ?_)
      refine WL.op rfl (opW.assignI rfl ?_)
      refine WL.nil ?_
      refine thenQ_n (hK8 _ _ ?_)
      refine WC.ret ?_
      refine bodyQ_ret (.tmpI rfl .nil) ?_
      exact ⟨rfl, hS.old⟩

theorem rspace_ok (w0 : World) (p : Nat) (d : RfD) (ha : RfAt w0 p d) (ho : okA d.l) : Ret Try.prog 19 #[.pointer (some ⟨p, 0, none⟩)] w0 (fun u w' => u = .int .u64 ((d.l.foldl fP 0 : Nat) : Int) ∧ Bel w0 w') := by
  refine Ret.enter (args := [.pointer (some ⟨p, 0, none⟩)]) Try.func19 rfl Try.ntmps19 Try.results19 rfl ?_
  have hS := St.start w0
  have hml : (d.l.map Prod.fst).length = d.l.length := List.length_map _
  refine WC.seq (fun K1 hK1 => ?_)
  refine WC.region ?_
  refine WL.op rfl (opW.assignI rfl ?_)
  refine WL.nil ?_
  refine thenQ_n (hK1 _ _ ?_)
  refine WC.seq (fun K2 hK2 => ?_)
  refine WC.region ?_
  refine WL.op rfl (opW.assignI rfl ?_)
  refine WL.nil ?_
  refine thenQ_n (hK2 _ _ ?_)
  refine WC.seq (fun K3 hK3 => ?_)
  refine WC.seq (fun K4 hK4 => ?_)
  refine WC.region ?_
  refine WL.op rfl (opW.assignI rfl ?_)
  refine WL.nil ?_
  refine thenQ_n (hK4 _ _ ?_)
  refine WC.block ?_
  refine WC.loop (fun q f w => ∃ k : Nat, Fits [(0, .pointer (some ⟨p, 0, none⟩)), (3, .int .u64 ((((d.l.take k).foldl fP 0) : Nat) : Int)), (4, .int .i64 (k : Int))] f ∧ St w0 [] w ∧ k ≤ d.l.length ∧ q = d.l.length - k) (d.l.length) ?_ ?_
  ·
    exact ⟨0, ⟨rfl, rfl, rfl, trivial⟩, hS, Nat.zero_le _, rfl⟩
  ·
    rintro q f w ⟨k, hfit, hS, hk0, hm⟩
    refine WC.fits _ hfit (fun g => ?_)
    clear hfit
    refine WC.seq (fun K5 hK5 => ?_)
    refine WC.seq (fun K6 hK6 => ?_)
    refine WC.region ?_
    refine WL.op rfl (opW.moveI rfl ?_)
    refine WL.op rfl (opW.moveV (v := .pointer (some ⟨p, 0, none⟩)) rfl ?_)
    refine WL.op rfl (opW.nilCheckB rfl ?_)
    refine WL.op rfl (opW.fieldAddrB rfl ?_)
    refine WL.op rfl (opW.loadV rfl ((ha.1.bel hS.old).at1 (RfS.at_l _)) ?_)
    refine WL.op rfl (opW.lenV rfl ((ha.2.1.bel hS.old)) ?_)
    refine WL.op rfl (opW.lss rfl rfl ?_)
    refine WL.nil ?_
    refine thenQ_n (hK6 _ _ ?_)
    refine WC.cond _ rfl (fun hc0 => ?_) (fun hc0 => ?_)
    ·
      have hr0 := hc0
      try simp only [decide_eq_true_eq, decide_eq_false_iff_not, Bool.and_eq_true, Bool.or_eq_true, Bool.and_eq_false_iff, Bool.or_eq_false_iff, Bool.not_eq_true', Bool.not_eq_false', Int.not_lt, Int.not_le] at hc0
      have hkl : k < d.l.length := by omega
      have hkm : k < (d.l.map Prod.fst).length := by omega
      have hox := ho _ (List.getElem_mem hkl)
      have hge : (d.l.map Prod.fst)[k] = d.l[k].1 := by simp
      have hle := ha.2.1.le
      simp only [maxLen] at hle
      refine WC.skip ?_
      refine thenQ_n (hK5 _ _ ?_)
      refine WC.seq (fun K7 hK7 => ?_)
      refine WC.block ?_
      refine WC.region ?_
      refine WL.op rfl (opW.moveI rfl ?_)
      refine WL.op rfl (opW.moveV (v := .pointer (some ⟨p, 0, none⟩)) rfl ?_)
      refine WL.op rfl (opW.nilCheckB rfl ?_)
      refine WL.op rfl (opW.fieldAddrB rfl ?_)
      refine WL.op rfl (opW.loadV rfl ((ha.1.bel hS.old).at1 (RfS.at_l _)) ?_)
      refine WL.op rfl (opW.moveI rfl ?_)
      refine WL.op rfl (opW.idxV rfl ((ha.2.1.bel hS.old)) rfl (by omega) ?_)
      refine WL.op rfl (opW.fieldAddr rfl ((ha.2.1.bel hS.old).isP hkm) ?_)
      refine WL.op rfl (opW.loadV rfl (Ld.pt1 ((ha.2.1.bel hS.old).isPt hkm) 1 ((Added.at_space _).trans (by rw [hge]))) ?_)
      refine WL.op rfl (opW.call (rsum_ok _ ((d.l.take k).foldl fP 0) d.l[k].1.space (fP_lt _) hox.2) rfl ?_)
      rintro _ w ⟨rfl, hw⟩; replace hS := hS.bel hw
      refine WL.op rfl (opW.assignI rfl ?_)
      refine WL.nil ?_
      refine blockQ_n ?_
      refine thenQ_n (hK7 _ _ ?_)
      refine WC.region ?_
      refine WL.op rfl (opW.moveI rfl ?_)
      refine WL.op rfl (opW.add rfl rfl (wrap_i64 (by omega)) ?_)
      refine WL.op rfl (opW.assignI rfl ?_)
      refine WL.nil ?_
      refine thenQ_n ?_
      exact ⟨d.l.length - (k + 1), by omega, k + 1, ⟨rfl, congrArg (fun n : Nat => Value.int .u64 (n : Int)) (fold_step (f := fP) hkl).symm, congrArg (Value.int .i64) (by omega), trivial⟩, hS, by omega, rfl⟩
    ·
      have hr0 := hc0
      try simp only [decide_eq_true_eq, decide_eq_false_iff_not, Bool.and_eq_true, Bool.or_eq_true, Bool.and_eq_false_iff, Bool.or_eq_false_iff, Bool.not_eq_true', Bool.not_eq_false', Int.not_lt, Int.not_le] at hc0
      obtain rfl : k = d.l.length := by omega
      rw [List.take_length]
      refine WC.exit ?_
      refine thenQ_e ?_
      refine thenQ_e ?_
      refine blockQ_hit ?_
      refine thenQ_n (hK3 _ _ ?_)
      refine WC.seq (fun K8 hK8 => ?_)
      refine WC.region ?_
      refine WL.op rfl (opW.moveI rfl ?_)
      refine WL.op rfl (opW.assignI rfl ?_)
      refine WL.nil ?_
      refine thenQ_n (hK8 _ _ ?_)
      refine WC.ret ?_
      refine bodyQ_ret (.tmpI rfl .nil) ?_
      exact ⟨rfl, hS.old⟩

theorem rof_ok (w0 : World) (p : Nat) (d : RfD) (k : Key) (ha : RfAt w0 p d) (ho : okA d.l) : Ret Try.prog 21 #[.pointer (some ⟨p, 0, none⟩), .agg (Enc.enc k)] w0 (fun u w' => u = .int .u64 ((rO k d.l : Nat) : Int) ∧ Bel w0 w') := by
  refine Ret.enter (args := [.pointer (some ⟨p, 0, none⟩), .agg (Enc.enc k)]) Try.func21 rfl Try.ntmps21 Try.results21 rfl ?_
  have hS := St.start w0
  have hml : (d.l.map Prod.fst).length = d.l.length := List.length_map _
  refine WC.seq (fun K1 hK1 => ?_)
  refine WC.region ?_
  refine WL.op rfl (opW.boxA hS rfl ?_)
  intro b3 w _ hS
  refine WL.op rfl (opW.assignI rfl ?_)
  refine WL.nil ?_
  refine thenQ_n (hK1 _ _ ?_)
  refine WC.seq (fun K2 hK2 => ?_)
  refine WC.region ?_
  refine WL.op rfl (opW.assignI rfl ?_)
  refine WL.nil ?_
  refine thenQ_n (hK2 _ _ ?_)
  refine WC.seq (fun K3 hK3 => ?_)
  refine WC.seq (fun K4 hK4 => ?_)
  refine WC.region ?_
  refine WL.op rfl (opW.assignI rfl ?_)
  refine WL.nil ?_
  refine thenQ_n (hK4 _ _ ?_)
  refine WC.block ?_
  refine WC.loop (fun q f w => ∃ j : Nat, Fits [(0, .pointer (some ⟨p, 0, none⟩)), (3, .pointer (some ⟨b3, 0, none⟩)), (5, .int .u64 ((((d.l.take j).foldl (fO k) 0) : Nat) : Int)), (6, .int .i64 (j : Int))] f ∧ St w0 [blkE b3 (Enc.enc k) 27] w ∧ j ≤ d.l.length ∧ q = d.l.length - j) (d.l.length) ?_ ?_
  ·
    exact ⟨0, ⟨rfl, rfl, rfl, rfl, trivial⟩, hS, Nat.zero_le _, rfl⟩
  ·
    rintro q f w ⟨j, hfit, hS, hj0, hm⟩
    refine WC.fits _ hfit (fun g => ?_)
    clear hfit
    refine WC.seq (fun K5 hK5 => ?_)
    refine WC.seq (fun K6 hK6 => ?_)
    refine WC.region ?_
    refine WL.op rfl (opW.moveI rfl ?_)
    refine WL.op rfl (opW.moveV (v := .pointer (some ⟨p, 0, none⟩)) rfl ?_)
    refine WL.op rfl (opW.nilCheckB rfl ?_)
    refine WL.op rfl (opW.fieldAddrB rfl ?_)
    refine WL.op rfl (opW.loadV rfl ((ha.1.bel hS.old).at1 (RfS.at_l _)) ?_)
    refine WL.op rfl (opW.lenV rfl ((ha.2.1.bel hS.old)) ?_)
    refine WL.op rfl (opW.lss rfl rfl ?_)
    refine WL.nil ?_
    refine thenQ_n (hK6 _ _ ?_)
    refine WC.cond _ rfl (fun hc0 => ?_) (fun hc0 => ?_)
    ·
      have hr0 := hc0
      try simp only [decide_eq_true_eq, decide_eq_false_iff_not, Bool.and_eq_true, Bool.or_eq_true, Bool.and_eq_false_iff, Bool.or_eq_false_iff, Bool.not_eq_true', Bool.not_eq_false', Int.not_lt, Int.not_le] at hc0
      have hjl : j < d.l.length := by omega
      have hkm : j < (d.l.map Prod.fst).length := by omega
      have hox := ho _ (List.getElem_mem hjl)
      have hge : (d.l.map Prod.fst)[j] = d.l[j].1 := by simp
      have hle := ha.2.1.le
      simp only [maxLen] at hle
      refine WC.skip ?_
      refine thenQ_n (hK5 _ _ ?_)
      refine WC.mid (fun f w =>  Fits [(0, .pointer (some ⟨p, 0, none⟩)), (3, .pointer (some ⟨b3, 0, none⟩)), (5, .int .u64 ((fO k ((d.l.take j).foldl (fO k) 0) d.l[j] : Nat) : Int)), (6, .int .i64 (j : Int))] f ∧ St w0 [blkE b3 (Enc.enc k) 27] w) ?_ ?_
      ·
        refine WC.block ?_
        refine WC.seq (fun K7 hK7 => ?_)
        refine WC.draw 10 (.look 0 (.look 1 (.look 2 (.look 3 (.look 4 (.look 5 (.look 6 (.look 7 (.look 8 (.one 9 .nil)))))))))) (by kernel_rfl) (fun _ _ _ h => h) (fun w1 hw1 => ?_)
        replace hS := hS.bel hw1
        have hS1 := hS
        have hT := St.start w1
        refine ML.look rfl rfl rfl (fun w hw => (by have hS := hS1.bel hw; exact opW.loadV rfl (hS.ldA (cs := Enc.enc k) (by first | exact .here | exact .there (.here) | exact .there (.there (.here)) | exact .there (.there (.there (.here))) | exact .there (.there (.there (.there (.here)))) | exact .there (.there (.there (.there (.there (.here))))) | exact .there (.there (.there (.there (.there (.there (.here)))))) | exact .there (.there (.there (.there (.there (.there (.there (.here))))))) | exact .there (.there (.there (.there (.there (.there (.there (.there (.here)))))))) | exact .there (.there (.there (.there (.there (.there (.there (.there (.there (.here))))))))) | exact .there (.there (.there (.there (.there (.there (.there (.there (.there (.there (.here)))))))))) | exact .there (.there (.there (.there (.there (.there (.there (.there (.there (.there (.there (.here))))))))))) | exact .there (.there (.there (.there (.there (.there (.there (.there (.there (.there (.there (.there (.here))))))))))))) (Enc.size_eq _)) ⟨rfl, rfl⟩)) ?_
        refine ML.look rfl rfl rfl (fun w hw => (by have hS := hS1.bel hw; exact opW.moveV (v := .pointer (some ⟨p, 0, none⟩)) rfl ⟨rfl, rfl⟩)) ?_
        refine ML.look rfl rfl rfl (fun w hw => (by have hS := hS1.bel hw; exact opW.nilCheckB rfl ⟨rfl, rfl⟩)) ?_
        refine ML.look rfl rfl rfl (fun w hw => (by have hS := hS1.bel hw; exact opW.fieldAddrB rfl ⟨rfl, rfl⟩)) ?_
        refine ML.look rfl rfl rfl (fun w hw => (by have hS := hS1.bel hw; exact opW.loadV rfl ((ha.1.bel hS.old).at1 (RfS.at_l _)) ⟨rfl, rfl⟩)) ?_
        refine ML.look rfl rfl rfl (fun w hw => (by have hS := hS1.bel hw; exact opW.moveI rfl ⟨rfl, rfl⟩)) ?_
        refine ML.look rfl rfl rfl (fun w hw => (by have hS := hS1.bel hw; exact opW.idxV rfl ((ha.2.1.bel hS.old)) rfl (by omega) ⟨rfl, rfl⟩)) ?_
        refine ML.look rfl rfl rfl (fun w hw => (by have hS := hS1.bel hw; exact opW.fieldAddr rfl ((ha.2.1.bel hS.old).isP hkm) ⟨rfl, rfl⟩)) ?_
        refine ML.look rfl rfl rfl (fun w hw => (by have hS := hS1.bel hw; exact opW.loadV rfl (Ld.pt1 ((ha.2.1.bel hS.old).isPt hkm) 2 ((Added.at_keys _).trans (by rw [hge]))) ⟨rfl, rfl⟩)) ?_
        refine ML.one rfl rfl rfl (opW.call (rin_ok _ k _ d.l[j].2 ((ha.2.2 j hjl).bel hS.old)) rfl ?_)
        rintro _ w ⟨rfl, hw⟩; replace hT := hT.bel hw
        refine ⟨hT.old, ?_⟩
        have hS := hS1.merge hT
        try simp only [List.cons_append, List.nil_append] at hS
        refine ML.nil ?_
        refine thenQ_n (hK7 _ _ ?_)
        refine WC.cond _ rfl (fun hc1 => ?_) (fun hc1 => ?_)
        ·
          have hr1 := hc1
          try simp only [decide_eq_true_eq, decide_eq_false_iff_not, Bool.and_eq_true, Bool.or_eq_true, Bool.and_eq_false_iff, Bool.or_eq_false_iff, Bool.not_eq_true', Bool.not_eq_false', Int.not_lt, Int.not_le] at hc1
          refine WC.region ?_
          refine WL.op rfl (opW.moveI rfl ?_)
          refine WL.op rfl (opW.moveV (v := .pointer (some ⟨p, 0, none⟩)) rfl ?_)
          refine WL.op rfl (opW.nilCheckB rfl ?_)
          refine WL.op rfl (opW.fieldAddrB rfl ?_)
          refine WL.op rfl (opW.loadV rfl ((ha.1.bel hS.old).at1 (RfS.at_l _)) ?_)
          refine WL.op rfl (opW.moveI rfl ?_)
          refine WL.op rfl (opW.idxV rfl ((ha.2.1.bel hS.old)) rfl (by omega) ?_)
          refine WL.op rfl (opW.fieldAddr rfl ((ha.2.1.bel hS.old).isP hkm) ?_)
          refine WL.op rfl (opW.loadV rfl (Ld.pt1 ((ha.2.1.bel hS.old).isPt hkm) 0 ((Added.at_cost _).trans (by rw [hge]))) ?_)
          refine WL.op rfl (opW.call (rsum_ok _ ((d.l.take j).foldl (fO k) 0) d.l[j].1.cost (fO_lt _ _) hox.1) rfl ?_)
          rintro _ w ⟨rfl, hw⟩; replace hS := hS.bel hw
          refine WL.op rfl (opW.assignI rfl ?_)
          refine WL.nil ?_
          refine blockQ_n ?_
          refine thenQ_n ?_
          first | exact ⟨⟨rfl, rfl, congrArg (fun n : Nat => Value.int .u64 (n : Int)) (if_pos (of_decide_eq_true hr1)).symm, rfl, trivial⟩, hS⟩ | exact ⟨⟨rfl, rfl, congrArg (fun n : Nat => Value.int .u64 (n : Int)) (if_neg (of_decide_eq_false hr1)).symm, rfl, trivial⟩, hS⟩
        ·
          have hr1 := hc1
          try simp only [decide_eq_true_eq, decide_eq_false_iff_not, Bool.and_eq_true, Bool.or_eq_true, Bool.and_eq_false_iff, Bool.or_eq_false_iff, Bool.not_eq_true', Bool.not_eq_false', Int.not_lt, Int.not_le] at hc1
          refine WC.skip ?_
          refine blockQ_n ?_
          refine thenQ_n ?_
          first | exact ⟨⟨rfl, rfl, congrArg (fun n : Nat => Value.int .u64 (n : Int)) (if_pos (of_decide_eq_true hr1)).symm, rfl, trivial⟩, hS⟩ | exact ⟨⟨rfl, rfl, congrArg (fun n : Nat => Value.int .u64 (n : Int)) (if_neg (of_decide_eq_false hr1)).symm, rfl, trivial⟩, hS⟩
      ·
        rintro f w ⟨hfit, hS⟩
        refine WC.fits _ hfit (fun g => ?_)
        clear hfit
        refine WC.region ?_
        refine WL.op rfl (opW.moveI rfl ?_)
        refine WL.op rfl (opW.add rfl rfl (wrap_i64 (by omega)) ?_)
        refine WL.op rfl (opW.assignI rfl ?_)
        refine WL.nil ?_
        refine thenQ_n ?_
        exact ⟨d.l.length - (j + 1), by omega, j + 1, ⟨rfl, rfl, congrArg (fun n : Nat => Value.int .u64 (n : Int)) (fold_step (f := fO k) hjl).symm, congrArg (Value.int .i64) (by omega), trivial⟩, hS, by omega, rfl⟩
    ·
      have hr0 := hc0
      try simp only [decide_eq_true_eq, decide_eq_false_iff_not, Bool.and_eq_true, Bool.or_eq_true, Bool.and_eq_false_iff, Bool.or_eq_false_iff, Bool.not_eq_true', Bool.not_eq_false', Int.not_lt, Int.not_le] at hc0
      obtain rfl : j = d.l.length := by omega
      rw [List.take_length]
      refine WC.exit ?_
      refine thenQ_e ?_
      refine thenQ_e ?_
      refine blockQ_hit ?_
      refine thenQ_n (hK3 _ _ ?_)
      refine WC.seq (fun K8 hK8 => ?_)
      refine WC.region ?_
      refine WL.op rfl (opW.moveI rfl ?_)
      refine WL.op rfl (opW.assignI rfl ?_)
      refine WL.nil ?_
      refine thenQ_n (hK8 _ _ ?_)
      refine WC.ret ?_
      refine bodyQ_ret (.tmpI rfl .nil) ?_
      exact ⟨rfl, hS.old⟩

end Go.Fer
