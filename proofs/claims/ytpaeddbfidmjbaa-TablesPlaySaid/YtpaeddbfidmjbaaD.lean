/- great, made -/
import Derived.Test.YtpaeddbfidmjbaaC
set_option linter.all false
namespace Go.Fer
open Go Go.Proofs Go.RowKit

def smallL (ms : List LkM) : Prop := ∀ m ∈ ms, m.ws.length ≤ 140737488351232 ∧ m.rs.length ≤ 140737488351232
def longB (ms : List LkM) : Bool := decide (2000 ≤ ms.length + lenL ms)
theorem lk_of {w : World} : ∀ {xs : List Lookup}, (∀ x ∈ xs, Lookup.okz w x) → ∃ ms, LkIs w xs ms ∧ smallL ms
  | [], _ => ⟨[], trivial, fun m h => by cases h⟩
  | x :: xs, h => by
    obtain ⟨ms, h1, h2⟩ := lk_of (xs := xs) fun y hy => h y (List.mem_cons_of_mem _ hy)
    obtain ⟨⟨a, ha, ha2, _⟩, b, hb, hb2, _⟩ := h x List.mem_cons_self
    refine ⟨⟨x.table, a, b⟩ :: ms, ⟨⟨rfl, ha, hb⟩, h1⟩, fun m hm => ?_⟩
    rcases List.mem_cons.1 hm with rfl | hm
    · exact ⟨by simpa using ha2, by simpa using hb2⟩
    · exact h2 m hm
/-- what an act holds -/
structure AcM where
  keys : List Key
  lk : List Lookup
  ms : List LkM
def AcIs (w : World) (x : Act) (m : AcM) : Prop := SlR w x.keys.v m.keys ∧ SlR w x.l.v m.lk ∧ LkIs w m.lk m.ms ∧ smallL m.ms
theorem AcIs.bel {w w' : World} {x : Act} {m : AcM} (hb : Bel w w') (h : AcIs w x m) : AcIs w' x m := ⟨h.1.bel hb, h.2.1.bel hb, h.2.2.1.bel hb, h.2.2.2⟩
theorem ac_of {w : World} {x : Act} (h : Act.okz w x) : ∃ m, AcIs w x m := by
  obtain ⟨⟨k, hk, _⟩, l, hl, _, hlo⟩ := h
  obtain ⟨ms, h1, h2⟩ := lk_of hlo
  exact ⟨⟨k, l, ms⟩, hk, hl, h1, h2⟩
theorem acs_of {w : World} {xs : List Act} (h : ∀ x ∈ xs, Act.okz w x) : ∃ ac : Nat → AcM, ∀ i (hi : i < xs.length), AcIs w (xs[i]'hi) (ac i) := by
  have h1 : ∀ i, ∃ m : AcM, ∀ hi : i < xs.length, AcIs w (xs[i]'hi) m := by
    intro i
    by_cases hi : i < xs.length
    · obtain ⟨m, hm⟩ := ac_of (h xs[i] (List.getElem_mem hi))
      exact ⟨m, fun _ => hm⟩
    · exact ⟨⟨[], [], []⟩, fun h => absurd h hi⟩
  obtain ⟨ac, hac⟩ := Classical.axiomOfChoice h1
  exact ⟨ac, hac⟩
def actB (m : AcM) : Bool := (decide (400 < m.keys.length) || decide (40 < m.lk.length)) || longB m.ms
def greatB (n : Nat) (ac : Nat → AcM) : Bool := decide (80 < n) || (List.range n).any fun i => actB (ac i)
theorem greatB_hit {n i : Nat} {ac : Nat → AcM} (hi : i < n) (h : actB (ac i) = true) : greatB n ac = true := by
  unfold greatB
  rw [Bool.or_eq_true]
  exact .inr (List.any_eq_true.2 ⟨i, List.mem_range.2 hi, h⟩)
theorem greatB_no {n : Nat} {ac : Nat → AcM} (hn : ¬ 80 < n) (h : ∀ i, i < n → actB (ac i) = false) : greatB n ac = false := by
  unfold greatB
  rw [Bool.or_eq_false_iff]
  exact ⟨decide_eq_false hn, List.any_eq_false.2 fun i hi => by rw [h i (List.mem_range.1 hi)]; decide⟩
theorem greatB_one {m : AcM} (h : greatB 1 (fun _ => m) = false) : actB m = false := by
  unfold greatB at h
  rw [Bool.or_eq_false_iff] at h
  simpa using h.2
theorem longB_no {ms : List LkM} (h : longB ms = false) : lenL ms < 2000 := by
  unfold longB at h; simp at h; omega

theorem long_ok (w0 : World) (v : Value) (xs : List Lookup) (ms : List LkM) (hx : SlR w0 v xs) (hls : LkIs w0 xs ms) (hsm : smallL ms) : Ret Try.prog 9 #[v] w0 (fun u w' => u = .bool (longB ms) ∧ Bel w0 w') := by
  refine Ret.enter (args := [v]) Try.func9 rfl Try.ntmps9 Try.results9 rfl ?_
  have hS := St.start w0
  refine WC.seq (fun K1 hK1 => ?_)
  refine WC.region ?_
  refine WL.op rfl (opW.assignB rfl ?_)
  refine WL.nil ?_
  refine thenQ_n (hK1 _ _ ?_)
  refine WC.seq (fun K2 hK2 => ?_)
  refine WC.region ?_
  refine WL.op rfl (opW.moveV (v := v) rfl ?_)
  refine WL.op rfl (opW.lenV rfl ((hx.bel hS.old)) ?_)
  refine WL.op rfl (opW.assignI rfl ?_)
  refine WL.nil ?_
  refine thenQ_n (hK2 _ _ ?_)
  refine WC.seq (fun K3 hK3 => ?_)
  refine WC.seq (fun K4 hK4 => ?_)
  refine WC.region ?_
  refine WL.op rfl (opW.assignI rfl ?_)
  refine WL.nil ?_
  refine thenQ_n (hK4 _ _ ?_)
  refine WC.block ?_
  refine WC.loop (fun q f w => ∃ k : Nat, Fits [(0, v), (3, .int .i64 ((xs.length + lenL (ms.take k) : Nat) : Int)), (4, .int .i64 (k : Int))] f ∧ St w0 [] w ∧ k ≤ xs.length ∧ q = xs.length - k) (xs.length) ?_ ?_
  ·
    exact ⟨0, ⟨rfl, rfl, rfl, trivial⟩, hS, Nat.zero_le _, rfl⟩
  ·
    rintro q f w ⟨k, hfit, hS, hk0, hm⟩
    refine WC.fits _ hfit (fun g => ?_)
    clear hfit
    refine WC.seq (fun K5 hK5 => ?_)
    refine WC.seq (fun K6 hK6 => ?_)
    refine WC.region ?_
    refine WL.op rfl (opW.moveI rfl ?_)
    refine WL.op rfl (opW.moveV (v := v) rfl ?_)
    refine WL.op rfl (opW.lenV rfl ((hx.bel hS.old)) ?_)
    refine WL.op rfl (opW.lss rfl rfl ?_)
    refine WL.op rfl (opW.moveB rfl ?_)
    refine WL.gd _ 11 _ rfl rfl rfl rfl (fun hg12 => opW.moveI rfl ⟨rfl, Bel.refl _⟩) (fun w hw => ?_)
    replace hS := hS.bel hw
    refine WL.gd _ 11 _ rfl rfl rfl rfl (fun hg13 => opW.lss (by first | exact gv_of rfl hg13 | rfl) rfl ⟨rfl, Bel.refl _⟩) (fun w hw => ?_)
    replace hS := hS.bel hw
    refine WL.op rfl (opW.pickAnd rfl (by first | rfl) rfl ?_)
    refine WL.nil ?_
    refine thenQ_n (hK6 _ _ ?_)
    refine WC.cond _ rfl (fun hc0 => ?_) (fun hc0 => ?_)
    ·
      have hr0 := hc0
      try simp only [decide_eq_true_eq, decide_eq_false_iff_not, Bool.and_eq_true, Bool.or_eq_true, Bool.and_eq_false_iff, Bool.or_eq_false_iff, Bool.not_eq_true', Bool.not_eq_false', Int.not_lt, Int.not_le] at hc0
      simp only [Bool.and_eq_true, decide_eq_true_eq] at hr0
      have hkl : k < xs.length := by omega
      have hlen := hls.len
      have hkm : k < ms.length := by omega
      obtain ⟨_, hlw, hlr⟩ := hls.at hkl hkm
      obtain ⟨hz1, hz2⟩ := hsm ms[k] (List.getElem_mem hkm)
      have hln := lenL_step hkm
      have hle := hx.le
      simp only [maxLen] at hle
      refine WC.skip ?_
      refine thenQ_n (hK5 _ _ ?_)
      refine WC.seq (fun K7 hK7 => ?_)
      refine WC.block ?_
      refine WC.draw 16 (.look 0 (.look 1 (.look 2 (.look 3 (.look 4 (.look 5 (.look 6 (.look 7 (.look 8 (.look 9 (.look 10 (.look 11 (.look 12 (.look 13 (.look 14 (.look 15 .nil)))))))))))))))) (by kernel_rfl) (fun _ _ _ h => h) (fun w1 hw1 => ?_)
      replace hS := hS.bel hw1
      have hS1 := hS
      have hT := St.start w1
      refine ML.look rfl rfl rfl (fun w hw => (by have hS := hS1.bel hw; exact opW.moveI rfl ⟨rfl, rfl⟩)) ?_
      refine ML.look rfl rfl rfl (fun w hw => (by have hS := hS1.bel hw; exact opW.moveV (v := v) rfl ⟨rfl, rfl⟩)) ?_
      refine ML.look rfl rfl rfl (fun w hw => (by have hS := hS1.bel hw; exact opW.moveI rfl ⟨rfl, rfl⟩)) ?_
      refine ML.look rfl rfl rfl (fun w hw => (by have hS := hS1.bel hw; exact opW.idxV rfl ((hx.bel hS.old)) rfl (by omega) ⟨rfl, rfl⟩)) ?_
      refine ML.look rfl rfl rfl (fun w hw => (by have hS := hS1.bel hw; exact opW.fieldAddr rfl ((hx.bel hS.old).isP hkl) ⟨rfl, rfl⟩)) ?_
      refine ML.look rfl rfl rfl (fun w hw => (by have hS := hS1.bel hw; exact opW.loadV rfl (Ld.pt1 ((hx.bel hS.old).isPt hkl) 32 (Lookup.at_writes _)) ⟨rfl, rfl⟩)) ?_
      refine ML.look rfl rfl rfl (fun w hw => (by have hS := hS1.bel hw; exact opW.lenV rfl ((hlw.bel hS.old)) ⟨rfl, rfl⟩)) ?_
      refine ML.look rfl rfl rfl (fun w hw => (by have hS := hS1.bel hw; exact opW.add rfl rfl (wrap_i64 (by omega)) ⟨rfl, rfl⟩)) ?_
      refine ML.look rfl rfl rfl (fun w hw => (by have hS := hS1.bel hw; exact opW.moveV (v := v) rfl ⟨rfl, rfl⟩)) ?_
      refine ML.look rfl rfl rfl (fun w hw => (by have hS := hS1.bel hw; exact opW.moveI rfl ⟨rfl, rfl⟩)) ?_
      refine ML.look rfl rfl rfl (fun w hw => (by have hS := hS1.bel hw; exact opW.idxV rfl ((hx.bel hS.old)) rfl (by omega) ⟨rfl, rfl⟩)) ?_
      refine ML.look rfl rfl rfl (fun w hw => (by have hS := hS1.bel hw; exact opW.fieldAddr rfl ((hx.bel hS.old).isP hkl) ⟨rfl, rfl⟩)) ?_
      refine ML.look rfl rfl rfl (fun w hw => (by have hS := hS1.bel hw; exact opW.loadV rfl (Ld.pt1 ((hx.bel hS.old).isPt hkl) 33 (Lookup.at_reads _)) ⟨rfl, rfl⟩)) ?_
      refine ML.look rfl rfl rfl (fun w hw => (by have hS := hS1.bel hw; exact opW.lenV rfl ((hlr.bel hS.old)) ⟨rfl, rfl⟩)) ?_
      refine ML.look rfl rfl rfl (fun w hw => (by have hS := hS1.bel hw; exact opW.add rfl rfl (wrap_i64 (by omega)) ⟨rfl, rfl⟩)) ?_
      refine ML.look rfl rfl rfl (fun w hw => (by have hS := hS1.bel hw; exact opW.assignI rfl ⟨rfl, rfl⟩)) ?_
      refine ML.nil ?_
      refine blockQ_n ?_
      refine thenQ_n (hK7 _ _ ?_)
      refine WC.region ?_
      refine WL.op rfl (opW.moveI rfl ?_)
      refine WL.op rfl (opW.add rfl rfl (wrap_i64 (by omega)) ?_)
      refine WL.op rfl (opW.assignI rfl ?_)
      refine WL.nil ?_
      refine thenQ_n ?_
      exact ⟨xs.length - (k + 1), by omega, k + 1, ⟨rfl, congrArg (Value.int .i64) (by omega), congrArg (Value.int .i64) (by omega), trivial⟩, hS, by omega, rfl⟩
    ·
      have hr0 := hc0
      try simp only [decide_eq_true_eq, decide_eq_false_iff_not, Bool.and_eq_true, Bool.or_eq_true, Bool.and_eq_false_iff, Bool.or_eq_false_iff, Bool.not_eq_true', Bool.not_eq_false', Int.not_lt, Int.not_le] at hc0
      have hlen := hls.len
      have hlt := lenL_take ms k
      simp only [Bool.and_eq_false_iff, decide_eq_false_iff_not] at hr0
      refine WC.exit ?_
      refine thenQ_e ?_
      refine thenQ_e ?_
      refine blockQ_hit ?_
      refine thenQ_n (hK3 _ _ ?_)
      refine WC.seq (fun K8 hK8 => ?_)
      refine WC.region ?_
      refine WL.op rfl (opW.moveI rfl ?_)
      refine WL.op rfl (opW.geq rfl rfl ?_)
      refine WL.op rfl (opW.assignB rfl ?_)
      refine WL.nil ?_
      refine thenQ_n (hK8 _ _ ?_)
      refine WC.ret ?_
      refine bodyQ_ret (.tmpB rfl .nil) ?_
      refine ⟨congrArg Value.bool ?_, hS.old⟩
      unfold longB
      rw [hlen]
      rcases hr0 with h | h
      · have hkk : k = xs.length := by omega
        rw [hkk, ← hlen, List.take_length]
        rw [Bool.eq_iff_iff, decide_eq_true_eq, decide_eq_true_eq]; omega
      · rw [Bool.eq_iff_iff, decide_eq_true_eq, decide_eq_true_eq]; omega

theorem great_ok (w0 : World) (v : Value) (xs : List Act) (ac : Nat → AcM) (hx : SlR w0 v xs) (hac : ∀ i (hi : i < xs.length), AcIs w0 (xs[i]'hi) (ac i)) : Ret Try.prog 8 #[v] w0 (fun u w' => u = .bool (greatB xs.length ac) ∧ Bel w0 w') := by
  refine Ret.enter (args := [v]) Try.func8 rfl Try.ntmps8 Try.results8 rfl ?_
  have hS := St.start w0
  refine WC.seq (fun K1 hK1 => ?_)
  refine WC.region ?_
  refine WL.op rfl (opW.assignB rfl ?_)
  refine WL.nil ?_
  refine thenQ_n (hK1 _ _ ?_)
  refine WC.seq (fun K2 hK2 => ?_)
  refine WC.seq (fun K3 hK3 => ?_)
  refine WC.region ?_
  refine WL.op rfl (opW.moveV (v := v) rfl ?_)
  refine WL.op rfl (opW.lenV rfl ((hx.bel hS.old)) ?_)
  refine WL.op rfl (opW.gtr rfl rfl ?_)
  refine WL.nil ?_
  refine thenQ_n (hK3 _ _ ?_)
  refine WC.cond _ rfl (fun hc0 => ?_) (fun hc0 => ?_)
  ·
    have hr0 := hc0
    try simp only [decide_eq_true_eq, decide_eq_false_iff_not, Bool.and_eq_true, Bool.or_eq_true, Bool.and_eq_false_iff, Bool.or_eq_false_iff, Bool.not_eq_true', Bool.not_eq_false', Int.not_lt, Int.not_le] at hc0
    refine WC.seq (fun K4 hK4 => ?_)
    refine WC.region ?_
    refine WL.op rfl (opW.assignB rfl ?_)
    refine WL.nil ?_
    refine thenQ_n (hK4 _ _ ?_)
    refine WC.ret ?_
    refine thenQ_r ?_
    refine bodyQ_ret (.tmpB rfl .nil) ?_
    refine ⟨congrArg Value.bool ?_, hS.old⟩
    unfold greatB
    rw [decide_eq_true (by omega : 80 < xs.length)]; rfl
  ·
    have hr0 := hc0
    try simp only [decide_eq_true_eq, decide_eq_false_iff_not, Bool.and_eq_true, Bool.or_eq_true, Bool.and_eq_false_iff, Bool.or_eq_false_iff, Bool.not_eq_true', Bool.not_eq_false', Int.not_lt, Int.not_le] at hc0
    refine WC.skip ?_
    refine thenQ_n (hK2 _ _ ?_)
    refine WC.seq (fun K5 hK5 => ?_)
    refine WC.seq (fun K6 hK6 => ?_)
    refine WC.region ?_
    refine WL.op rfl (opW.assignI rfl ?_)
    refine WL.nil ?_
    refine thenQ_n (hK6 _ _ ?_)
    refine WC.block ?_
    refine WC.loop (fun q f w => ∃ k : Nat, Fits [(0, v), (3, .int .i64 (k : Int))] f ∧ St w0 [] w ∧ (∀ i, i < k → actB (ac i) = false) ∧ k ≤ xs.length ∧ q = xs.length - k) (xs.length) ?_ ?_
    ·
      exact ⟨0, ⟨rfl, rfl, trivial⟩, hS, fun i h => by omega, Nat.zero_le _, rfl⟩
    ·
      rintro q f w ⟨k, hfit, hS, hno, hk0, hm⟩
      refine WC.fits _ hfit (fun g => ?_)
      clear hfit
      refine WC.seq (fun K7 hK7 => ?_)
      refine WC.seq (fun K8 hK8 => ?_)
      refine WC.region ?_
      refine WL.op rfl (opW.moveI rfl ?_)
      refine WL.op rfl (opW.moveV (v := v) rfl ?_)
      refine WL.op rfl (opW.lenV rfl ((hx.bel hS.old)) ?_)
      refine WL.op rfl (opW.lss rfl rfl ?_)
      refine WL.nil ?_
      refine thenQ_n (hK8 _ _ ?_)
      refine WC.cond _ rfl (fun hc1 => ?_) (fun hc1 => ?_)
      ·
        have hr1 := hc1
        try simp only [decide_eq_true_eq, decide_eq_false_iff_not, Bool.and_eq_true, Bool.or_eq_true, Bool.and_eq_false_iff, Bool.or_eq_false_iff, Bool.not_eq_true', Bool.not_eq_false', Int.not_lt, Int.not_le] at hc1
        have hkl : k < xs.length := by omega
        obtain ⟨hky, hlk, hlm, hsm⟩ := hac k hkl
        refine WC.skip ?_
        refine thenQ_n (hK7 _ _ ?_)
        refine WC.seq (fun K9 hK9 => ?_)
        refine WC.block ?_
        refine WC.seq (fun K10 hK10 => ?_)
        refine WC.region ?_
        refine WL.op rfl (opW.moveV (v := v) rfl ?_)
        refine WL.op rfl (opW.moveI rfl ?_)
        refine WL.op rfl (opW.idxV rfl ((hx.bel hS.old)) rfl (by omega) ?_)
        refine WL.op rfl (opW.fieldAddr rfl ((hx.bel hS.old).isP hkl) ?_)
        refine WL.op rfl (opW.loadV rfl (Ld.pt1 ((hx.bel hS.old).isPt hkl) 33 (Act.at_keys _)) ?_)
        refine WL.op rfl (opW.lenV rfl ((hky.bel hS.old)) ?_)
        refine WL.op rfl (opW.gtr rfl rfl ?_)
        refine WL.op rfl (opW.moveB rfl ?_)
        refine WL.gd _ 20 _ rfl rfl rfl rfl (fun hg21 => opW.moveV (v := v) rfl ⟨rfl, Bel.refl _⟩) (fun w hw => ?_)
        replace hS := hS.bel hw
        refine WL.gd _ 20 _ rfl rfl rfl rfl (fun hg22 => opW.moveI rfl ⟨rfl, Bel.refl _⟩) (fun w hw => ?_)
        replace hS := hS.bel hw
        refine WL.gd _ 20 _ rfl rfl rfl rfl (fun hg23 => opW.idxV (by first | exact gv_of rfl hg23 | rfl) ((hx.bel hS.old)) (by first | exact gv_of rfl hg23 | rfl) (by omega) ⟨rfl, Bel.refl _⟩) (fun w hw => ?_)
        replace hS := hS.bel hw
        refine WL.gd _ 20 _ rfl rfl rfl rfl (fun hg24 => opW.fieldAddr (by first | exact gv_of rfl hg24 | rfl) ((hx.bel hS.old).isP hkl) ⟨rfl, Bel.refl _⟩) (fun w hw => ?_)
        replace hS := hS.bel hw
        refine WL.gd _ 20 _ rfl rfl rfl rfl (fun hg25 => opW.loadV (by first | exact gv_of rfl hg25 | rfl) (Ld.pt1 ((hx.bel hS.old).isPt hkl) 34 (Act.at_l _)) ⟨rfl, Bel.refl _⟩) (fun w hw => ?_)
        replace hS := hS.bel hw
        refine WL.gd _ 20 _ rfl rfl rfl rfl (fun hg26 => opW.lenV (by first | exact gv_of rfl hg26 | rfl) ((hlk.bel hS.old)) ⟨rfl, Bel.refl _⟩) (fun w hw => ?_)
        replace hS := hS.bel hw
        refine WL.gd _ 20 _ rfl rfl rfl rfl (fun hg27 => opW.gtr (by first | exact gv_of rfl hg27 | rfl) rfl ⟨rfl, Bel.refl _⟩) (fun w hw => ?_)
        replace hS := hS.bel hw
        refine WL.op rfl (opW.pickOr rfl rfl (by first | rfl) ?_)
        refine WL.op rfl (opW.moveB rfl ?_)
        refine WL.gd _ 29 _ rfl rfl rfl rfl (fun hg30 => opW.moveV (v := v) rfl ⟨rfl, Bel.refl _⟩) (fun w hw => ?_)
        replace hS := hS.bel hw
        refine WL.gd _ 29 _ rfl rfl rfl rfl (fun hg31 => opW.moveI rfl ⟨rfl, Bel.refl _⟩) (fun w hw => ?_)
        replace hS := hS.bel hw
        refine WL.gd _ 29 _ rfl rfl rfl rfl (fun hg32 => opW.idxV (by first | exact gv_of rfl hg32 | rfl) ((hx.bel hS.old)) (by first | exact gv_of rfl hg32 | rfl) (by omega) ⟨rfl, Bel.refl _⟩) (fun w hw => ?_)
        replace hS := hS.bel hw
        refine WL.gd _ 29 _ rfl rfl rfl rfl (fun hg33 => opW.fieldAddr (by first | exact gv_of rfl hg33 | rfl) ((hx.bel hS.old).isP hkl) ⟨rfl, Bel.refl _⟩) (fun w hw => ?_)
        replace hS := hS.bel hw
        refine WL.gd _ 29 _ rfl rfl rfl rfl (fun hg34 => opW.loadV (by first | exact gv_of rfl hg34 | rfl) (Ld.pt1 ((hx.bel hS.old).isPt hkl) 34 (Act.at_l _)) ⟨rfl, Bel.refl _⟩) (fun w hw => ?_)
        replace hS := hS.bel hw
        refine WL.gd _ 29 (.bool (longB (ac k).ms)) rfl rfl rfl rfl (fun hg35 => ?_) (fun w hw => ?_)
        · refine opW.call (long_ok _ _ (ac k).lk (ac k).ms (hlk.bel hS.old) (hlm.bel hS.old) hsm) (args1 (by first | exact gv_of rfl hg35 | rfl)) ?_
          rintro _ w ⟨rfl, hw⟩; replace hS := hS.bel hw
          exact ⟨rfl, ‹_›⟩
        replace hS := hS.bel hw
        refine WL.op rfl (opW.pickOr rfl rfl (by first | rfl) ?_)
        have hact : ((decide ((400 : Int) < ((ac k).keys.length : Int)) || decide ((40 : Int) < ((ac k).lk.length : Int))) || longB (ac k).ms) = actB (ac k) := by
          unfold actB
          have e1 : decide ((400 : Int) < ((ac k).keys.length : Int)) = decide (400 < (ac k).keys.length) := by rw [Bool.eq_iff_iff, decide_eq_true_eq, decide_eq_true_eq]; omega
          have e2 : decide ((40 : Int) < ((ac k).lk.length : Int)) = decide (40 < (ac k).lk.length) := by rw [Bool.eq_iff_iff, decide_eq_true_eq, decide_eq_true_eq]; omega
          rw [e1, e2]
        refine WL.nil ?_
        refine thenQ_n (hK10 _ _ ?_)
        refine WC.cond _ rfl (fun hc2 => ?_) (fun hc2 => ?_)
        ·
          have hr2 := hc2
          try simp only [decide_eq_true_eq, decide_eq_false_iff_not, Bool.and_eq_true, Bool.or_eq_true, Bool.and_eq_false_iff, Bool.or_eq_false_iff, Bool.not_eq_true', Bool.not_eq_false', Int.not_lt, Int.not_le] at hc2
          refine WC.seq (fun K11 hK11 => ?_)
          refine WC.region ?_
          refine WL.op rfl (opW.assignB rfl ?_)
          refine WL.nil ?_
          refine thenQ_n (hK11 _ _ ?_)
          refine WC.ret ?_
          refine blockQ_r ?_
          refine thenQ_r ?_
          refine thenQ_r ?_
          refine blockQ_r ?_
          refine thenQ_r ?_
          refine bodyQ_ret (.tmpB rfl .nil) ?_
          rw [hact] at hr2
          exact ⟨congrArg Value.bool (greatB_hit hkl hr2).symm, hS.old⟩
        ·
          have hr2 := hc2
          try simp only [decide_eq_true_eq, decide_eq_false_iff_not, Bool.and_eq_true, Bool.or_eq_true, Bool.and_eq_false_iff, Bool.or_eq_false_iff, Bool.not_eq_true', Bool.not_eq_false', Int.not_lt, Int.not_le] at hc2
          refine WC.skip ?_
          refine blockQ_n ?_
          refine thenQ_n (hK9 _ _ ?_)
          refine WC.region ?_
          refine WL.op rfl (opW.moveI rfl ?_)
          refine WL.op rfl (opW.add rfl rfl (wrap_i64 (by omega)) ?_)
          refine WL.op rfl (opW.assignI rfl ?_)
          refine WL.nil ?_
          refine thenQ_n ?_
          refine ⟨xs.length - (k + 1), by omega, k + 1, ⟨rfl, congrArg (Value.int .i64) (by omega), trivial⟩, hS, fun i hi => ?_, by omega, rfl⟩
          rcases Nat.lt_or_ge i k with h | h
          · exact hno i h
          · obtain rfl : i = k := by omega
            rw [Bool.eq_false_iff]
            intro h2; rw [hact] at hr2; rw [h2] at hr2; cases hr2
      ·
        have hr1 := hc1
        try simp only [decide_eq_true_eq, decide_eq_false_iff_not, Bool.and_eq_true, Bool.or_eq_true, Bool.and_eq_false_iff, Bool.or_eq_false_iff, Bool.not_eq_true', Bool.not_eq_false', Int.not_lt, Int.not_le] at hc1
        refine WC.exit ?_
        refine thenQ_e ?_
        refine thenQ_e ?_
        refine blockQ_hit ?_
        refine thenQ_n (hK5 _ _ ?_)
        refine WC.seq (fun K12 hK12 => ?_)
        refine WC.region ?_
        refine WL.op rfl (opW.assignB rfl ?_)
        refine WL.nil ?_
        refine thenQ_n (hK12 _ _ ?_)
        refine WC.ret ?_
        refine bodyQ_ret (.tmpB rfl .nil) ?_
        exact ⟨congrArg Value.bool (greatB_no (by omega) fun i hi => hno i (by omega)).symm, hS.old⟩

theorem made_ok (w0 : World) (v : Value) (xs : List Act) (ac : Nat → AcM) (hx : SlR w0 v xs) (hac : ∀ i (hi : i < xs.length), AcIs w0 (xs[i]'hi) (ac i)) : Ret Try.prog 11 #[v] w0 (fun u w' => ∃ p d, u = .pointer (some ⟨p, 0, none⟩) ∧ TbOk d ∧ NewE w0 w' (tbE p d) ∧ Bel w0 w') := by
  refine Ret.enter (args := [v]) Try.func11 rfl Try.ntmps11 Try.results11 rfl ?_
  have hS := St.start w0
  refine WC.seq (fun K1 hK1 => ?_)
  refine WC.region ?_
  refine WL.op rfl (opW.assignV rfl ?_)
  refine WL.nil ?_
  refine thenQ_n (hK1 _ _ ?_)
  refine WC.seq (fun K2 hK2 => ?_)
  refine WC.region ?_
  refine WL.op rfl (opW.call (new_ok _) rfl ?_)
  rintro _ w ⟨p, d0, rfl, hf0, hn0, hw⟩
  replace hS := hS.newE hw hn0
  refine WL.op rfl (opW.assignV (v := .pointer (some ⟨p, 0, none⟩)) rfl ?_)
  refine WL.nil ?_
  refine thenQ_n (hK2 _ _ ?_)
  refine WC.seq (fun K3 hK3 => ?_)
  refine WC.seq (fun K4 hK4 => ?_)
  refine WC.region ?_
  refine WL.op rfl (opW.assignI rfl ?_)
  refine WL.nil ?_
  refine thenQ_n (hK4 _ _ ?_)
  refine WC.block ?_
  refine WC.loop (fun q f w => ∃ (k : Nat) (d : TbD), Fits [(0, v), (3, .pointer (some ⟨p, 0, none⟩)), (4, .int .i64 (k : Int))] f ∧ St w0 [tbE p d] w ∧ TbOk d ∧ k ≤ xs.length ∧ q = xs.length - k) (xs.length) ?_ ?_
  ·
    exact ⟨0, d0, ⟨rfl, rfl, rfl, trivial⟩, hS, fun k l h => (by rw [hf0] at h; cases h), Nat.zero_le _, rfl⟩
  ·
    rintro q f w ⟨k, d, hfit, hS, hok, hk0, hm⟩
    refine WC.fits _ hfit (fun g => ?_)
    clear hfit
    refine WC.seq (fun K5 hK5 => ?_)
    refine WC.seq (fun K6 hK6 => ?_)
    refine WC.region ?_
    refine WL.op rfl (opW.moveI rfl ?_)
    refine WL.op rfl (opW.moveV (v := v) rfl ?_)
    refine WL.op rfl (opW.lenV rfl ((hx.bel hS.old)) ?_)
    refine WL.op rfl (opW.lss rfl rfl ?_)
    refine WL.nil ?_
    refine thenQ_n (hK6 _ _ ?_)
    refine WC.cond _ rfl (fun hc0 => ?_) (fun hc0 => ?_)
    ·
      have hr0 := hc0
      try simp only [decide_eq_true_eq, decide_eq_false_iff_not, Bool.and_eq_true, Bool.or_eq_true, Bool.and_eq_false_iff, Bool.or_eq_false_iff, Bool.not_eq_true', Bool.not_eq_false', Int.not_lt, Int.not_le] at hc0
      have hkl : k < xs.length := by omega
      have hle := hx.le
      simp only [maxLen] at hle
      obtain ⟨hky, _⟩ := hac k hkl
      refine WC.skip ?_
      refine thenQ_n (hK5 _ _ ?_)
      refine WC.seq (fun K7 hK7 => ?_)
      refine WC.block ?_
      refine WC.draw 11 (.look 0 (.look 1 (.look 2 (.look 3 (.look 4 (.look 5 (.look 6 (.look 7 (.look 8 (.look 9 (.look 10 (.one 11 .nil)))))))))))) (by kernel_rfl) (fun _ _ _ h => h) (fun w1 hw1 => ?_)
      replace hS := hS.bel hw1
      have hS1 := hS
      have hT := St.start w1
      refine ML.look rfl rfl rfl (fun w hw => (by have hS := hS1.bel hw; exact opW.moveV (v := .pointer (some ⟨p, 0, none⟩)) rfl ⟨rfl, rfl⟩)) ?_
      refine ML.look rfl rfl rfl (fun w hw => (by have hS := hS1.bel hw; exact opW.moveV (v := v) rfl ⟨rfl, rfl⟩)) ?_
      refine ML.look rfl rfl rfl (fun w hw => (by have hS := hS1.bel hw; exact opW.moveI rfl ⟨rfl, rfl⟩)) ?_
      refine ML.look rfl rfl rfl (fun w hw => (by have hS := hS1.bel hw; exact opW.idxV rfl ((hx.bel hS.old)) rfl (by omega) ⟨rfl, rfl⟩)) ?_
      refine ML.look rfl rfl rfl (fun w hw => (by have hS := hS1.bel hw; exact opW.fieldAddr rfl ((hx.bel hS.old).isP hkl) ⟨rfl, rfl⟩)) ?_
      refine ML.look rfl rfl rfl (fun w hw => (by have hS := hS1.bel hw; exact opW.loadV rfl (Ld.ptA ((hx.bel hS.old).isPt hkl) 1 (Act.ex_table _) (by rw [Enc.size_eq]; decide)) ⟨rfl, rfl⟩)) ?_
      refine ML.look rfl rfl rfl (fun w hw => (by have hS := hS1.bel hw; exact opW.moveV (v := v) rfl ⟨rfl, rfl⟩)) ?_
      refine ML.look rfl rfl rfl (fun w hw => (by have hS := hS1.bel hw; exact opW.moveI rfl ⟨rfl, rfl⟩)) ?_
      refine ML.look rfl rfl rfl (fun w hw => (by have hS := hS1.bel hw; exact opW.idxV rfl ((hx.bel hS.old)) rfl (by omega) ⟨rfl, rfl⟩)) ?_
      refine ML.look rfl rfl rfl (fun w hw => (by have hS := hS1.bel hw; exact opW.fieldAddr rfl ((hx.bel hS.old).isP hkl) ⟨rfl, rfl⟩)) ?_
      refine ML.look rfl rfl rfl (fun w hw => (by have hS := hS1.bel hw; exact opW.loadV rfl (Ld.pt1 ((hx.bel hS.old).isPt hkl) 33 (Act.at_keys _)) ⟨rfl, rfl⟩)) ?_
      refine ML.put1 rfl rfl rfl rfl (opW.call (put_ok _ _ [] p d xs[k].table xs[k].keys.v (ac k).keys (hS.pick (by first | exact .h0 | exact .h1 | exact .h2 | exact .h3 | exact .h4 | exact .h5 | exact .h6 | exact .h7 | exact .h8 | exact .h9 | exact .h10 | exact .h11 | exact .h12 | exact .h13 | exact .h14)) hok (fun w h => hky.bel h.old)) rfl ?_)
      rintro _ w ⟨d2, rfl, _, _, hok2, hS⟩
      refine ML.nil ?_
      refine blockQ_n ?_
      refine thenQ_n (hK7 _ _ ?_)
      refine WC.region ?_
      refine WL.op rfl (opW.moveI rfl ?_)
      refine WL.op rfl (opW.add rfl rfl (wrap_i64 (by omega)) ?_)
      refine WL.op rfl (opW.assignI rfl ?_)
      refine WL.nil ?_
      refine thenQ_n ?_
      exact ⟨xs.length - (k + 1), by omega, k + 1, d2, ⟨rfl, rfl, congrArg (Value.int .i64) (by omega), trivial⟩, hS, hok2, by omega, rfl⟩
    ·
      have hr0 := hc0
      try simp only [decide_eq_true_eq, decide_eq_false_iff_not, Bool.and_eq_true, Bool.or_eq_true, Bool.and_eq_false_iff, Bool.or_eq_false_iff, Bool.not_eq_true', Bool.not_eq_false', Int.not_lt, Int.not_le] at hc0
      refine WC.exit ?_
      refine thenQ_e ?_
      refine thenQ_e ?_
      refine blockQ_hit ?_
      refine thenQ_n (hK3 _ _ ?_)
      refine WC.seq (fun K8 hK8 => ?_)
      refine WC.region ?_
      refine WL.op rfl (opW.moveV (v := .pointer (some ⟨p, 0, none⟩)) rfl ?_)
      refine WL.op rfl (opW.assignV (v := .pointer (some ⟨p, 0, none⟩)) rfl ?_)
      refine WL.nil ?_
      refine thenQ_n (hK8 _ _ ?_)
      refine WC.ret ?_
      refine bodyQ_ret (.tmpV (v := .pointer (some ⟨p, 0, none⟩)) rfl .nil) ?_
      exact ⟨p, d, rfl, hok, hS.takeE (by first | exact .h0 | exact .h1 | exact .h2 | exact .h3 | exact .h4 | exact .h5 | exact .h6 | exact .h7 | exact .h8 | exact .h9 | exact .h10 | exact .h11 | exact .h12 | exact .h13 | exact .h14), hS.old⟩

end Go.Fer
