/- ContainsFunc of instructions -/
import Derived.Test.YtmibkfdpgmohfaaDoorF
set_option linter.all false
namespace Go.Fer
open Go Go.Proofs Go.RowKit

theorem indexI_ok (w0 : World) (v fv : Value) (xs : List Instr) (p : Instr → Bool) (hx : SlR w0 v xs) (hf : ∀ w, Bel w0 w → ∀ c : Instr, c ∈ xs → FnV Tryd.prog fv [.agg (Enc.enc c)] w (fun u w' => u = .bool (p c) ∧ Bel w w')) : Ret Tryd.prog 29 #[v, fv] w0 (fun u w' => ∃ n : Int, u = .int .i64 n ∧ decide (0 ≤ n) = xs.any p ∧ Bel w0 w') := by
  refine Ret.enter (args := [v, fv]) Tryd.func29 rfl Tryd.ntmps29 Tryd.results29 rfl ?_
  have hS := St.start w0
  refine WC.seq (fun K1 hK1 => ?_)
  refine WC.region ?_
  refine WL.op rfl (opW.assignI rfl ?_)
  refine WL.nil ?_
  refine thenQ_n (hK1 _ _ ?_)
  refine WC.seq (fun K2 hK2 => ?_)
  refine WC.seq (fun K3 hK3 => ?_)
  refine WC.region ?_
  refine WL.op rfl (opW.moveV (v := v) rfl ?_)
  refine WL.op rfl (opW.lenV rfl ((hx.bel hS.old)) ?_)
  refine WL.op rfl (opW.moveI rfl ?_)
  refine WL.nil ?_
  refine thenQ_n (hK3 _ _ ?_)
  refine WC.block ?_
  refine WC.loop (fun q f w => ∃ k : Nat, Fits [(0, v), (1, fv), (7, .int .i64 (xs.length : Int)), (8, .int .i64 (k : Int))] f ∧ St w0 [] w ∧ (∀ j (h : j < xs.length), j < k → p xs[j] = false) ∧ k ≤ xs.length ∧ q = xs.length - k) (xs.length) ?_ ?_
  ·
    exact ⟨0, ⟨rfl, rfl, rfl, rfl, trivial⟩, hS, fun j _ h => absurd h (by omega), Nat.zero_le _, rfl⟩
  ·
    rintro q f w ⟨k, hfit, hS, hno, hk0, hm⟩
    refine WC.fits _ hfit (fun g => ?_)
    clear hfit
    refine WC.seq (fun K4 hK4 => ?_)
    refine WC.region ?_
    refine WL.op rfl (opW.lss rfl rfl ?_)
    refine WL.nil ?_
    refine thenQ_n (hK4 _ _ ?_)
    refine WC.seq (fun K5 hK5 => ?_)
    refine WC.cond _ rfl (fun hc0 => ?_) (fun hc0 => ?_)
    ·
      have hr0 := hc0
      try simp only [decide_eq_true_eq, decide_eq_false_iff_not, Bool.and_eq_true, Bool.or_eq_true, Bool.and_eq_false_iff, Bool.or_eq_false_iff, Bool.not_eq_true', Bool.not_eq_false', Int.not_lt, Int.not_le] at hc0
      have hkl : k < xs.length := by omega
      have hle := hx.le
      simp only [maxLen] at hle
      refine WC.skip ?_
      refine thenQ_n (hK5 _ _ ?_)
      refine WC.seq (fun K6 hK6 => ?_)
      refine WC.block ?_
      refine WC.seq (fun K7 hK7 => ?_)
      refine WC.region ?_
      refine WL.op rfl (opW.moveI rfl ?_)
      refine WL.op rfl (opW.assignI rfl ?_)
      refine WL.nil ?_
      refine thenQ_n (hK7 _ _ ?_)
      refine WC.seq (fun K8 hK8 => ?_)
      refine WC.region ?_
      refine WL.op rfl (opW.moveV (v := fv) rfl ?_)
      refine WL.op rfl (opW.moveV (v := v) rfl ?_)
      refine WL.op rfl (opW.moveI rfl ?_)
      refine WL.op rfl (opW.idxV rfl ((hx.bel hS.old)) rfl (by omega) ?_)
      refine WL.op rfl (opW.loadV rfl (((hx.bel hS.old).isPt hkl).ldA (Enc.size_eq xs[k])) ?_)
      refine WL.op rfl (opW.callV rfl (hf _ hS.old xs[k] (List.getElem_mem hkl)) rfl ?_)
      rintro _ w ⟨rfl, hw⟩; replace hS := hS.bel hw
      refine WL.nil ?_
      refine thenQ_n (hK8 _ _ ?_)
      refine WC.cond _ rfl (fun hc1 => ?_) (fun hc1 => ?_)
      ·
        have hr1 := hc1
        try simp only [decide_eq_true_eq, decide_eq_false_iff_not, Bool.and_eq_true, Bool.or_eq_true, Bool.and_eq_false_iff, Bool.or_eq_false_iff, Bool.not_eq_true', Bool.not_eq_false', Int.not_lt, Int.not_le] at hc1
        refine WC.seq (fun K9 hK9 => ?_)
        refine WC.region ?_
        refine WL.op rfl (opW.moveI rfl ?_)
        refine WL.op rfl (opW.assignI rfl ?_)
        refine WL.nil ?_
        refine thenQ_n (hK9 _ _ ?_)
        refine WC.ret ?_
        refine blockQ_r ?_
        refine thenQ_r ?_
        refine thenQ_r ?_
        refine blockQ_r ?_
        refine thenQ_r ?_
        refine bodyQ_ret (.tmpI rfl .nil) ?_
        exact ⟨_, rfl, by rw [List.any_eq_true.2 ⟨xs[k], List.getElem_mem hkl, hr1⟩]; exact decide_eq_true (by omega), hS.old⟩
      ·
        have hr1 := hc1
        try simp only [decide_eq_true_eq, decide_eq_false_iff_not, Bool.and_eq_true, Bool.or_eq_true, Bool.and_eq_false_iff, Bool.or_eq_false_iff, Bool.not_eq_true', Bool.not_eq_false', Int.not_lt, Int.not_le] at hc1
        refine WC.skip ?_
        refine blockQ_n ?_
        refine thenQ_n (hK6 _ _ ?_)
        refine WC.region ?_
        refine WL.op rfl (opW.add rfl rfl (wrap_i64 (by omega)) ?_)
        refine WL.op rfl (opW.moveI rfl ?_)
        refine WL.nil ?_
        refine thenQ_n ?_
        exact ⟨xs.length - (k + 1), by omega, k + 1, ⟨rfl, rfl, rfl, congrArg (Value.int .i64) (by omega), trivial⟩, hS, fun j h1 h2 => (by rcases Nat.lt_or_ge j k with h | h; exact hno j h1 h; obtain rfl : j = k := (by omega); exact hr1), by omega, rfl⟩
    ·
      have hr0 := hc0
      try simp only [decide_eq_true_eq, decide_eq_false_iff_not, Bool.and_eq_true, Bool.or_eq_true, Bool.and_eq_false_iff, Bool.or_eq_false_iff, Bool.not_eq_true', Bool.not_eq_false', Int.not_lt, Int.not_le] at hc0
      refine WC.exit ?_
      refine thenQ_e ?_
      refine thenQ_e ?_
      refine blockQ_hit ?_
      refine thenQ_n (hK2 _ _ ?_)
      refine WC.seq (fun K10 hK10 => ?_)
      refine WC.region ?_
      refine WL.op rfl (opW.assignI rfl ?_)
      refine WL.nil ?_
      refine thenQ_n (hK10 _ _ ?_)
      refine WC.ret ?_
      refine bodyQ_ret (.tmpI rfl .nil) ?_
      refine ⟨_, rfl, ?_, hS.old⟩
      rw [List.any_eq_false.2 (fun c hc => by obtain ⟨j, hj, rfl⟩ := List.getElem_of_mem hc; rw [hno j hj (by omega)]; decide)]
      rfl

theorem containsI_ok (w0 : World) (v fv : Value) (xs : List Instr) (p : Instr → Bool) (hx : SlR w0 v xs) (hf : ∀ w, Bel w0 w → ∀ c : Instr, c ∈ xs → FnV Tryd.prog fv [.agg (Enc.enc c)] w (fun u w' => u = .bool (p c) ∧ Bel w w')) : Ret Tryd.prog 23 #[v, fv] w0 (fun u w' => u = .bool (xs.any p) ∧ Bel w0 w') := by
  refine Ret.enter (args := [v, fv]) Tryd.func23 rfl Tryd.ntmps23 Tryd.results23 rfl ?_
  have hS := St.start w0
  refine WC.seq (fun K1 hK1 => ?_)
  refine WC.region ?_
  refine WL.op rfl (opW.assignB rfl ?_)
  refine WL.nil ?_
  refine thenQ_n (hK1 _ _ ?_)
  refine WC.seq (fun K2 hK2 => ?_)
  refine WC.region ?_
  refine WL.op rfl (opW.moveV (v := v) rfl ?_)
  refine WL.op rfl (opW.moveV (v := fv) rfl ?_)
  refine WL.op rfl (opW.call (indexI_ok _ v fv xs p (hx.bel hS.old) (fun w h c => hf w (hS.old.trans h) c)) rfl ?_)
  rintro _ w ⟨n, rfl, hn, hw⟩; replace hS := hS.bel hw
  refine WL.op rfl (opW.geq rfl rfl ?_)
  refine WL.op rfl (opW.assignB rfl ?_)
  refine WL.nil ?_
  refine thenQ_n (hK2 _ _ ?_)
  refine WC.ret ?_
  refine bodyQ_ret (.tmpB rfl .nil) ?_
  exact ⟨congrArg Value.bool hn, hS.old⟩

theorem beyondR_ok (w0 : World) (b : Nat) (rv : Value) (r : List Role) (c : Instr) (hp : Pt w0 (.pointer (some ⟨b, 41, none⟩)) #[rv]) (hr : SlR w0 rv r) : Ret Tryd.prog 22 #[.agg (Enc.enc c), .pointer (some ⟨b, 0, none⟩)] w0 (fun u w' => u = .bool (decide ((r.length : Int) ≤ (c.program.toNat : Int))) ∧ Bel w0 w') := by
  refine Ret.enter (args := [.agg (Enc.enc c), .pointer (some ⟨b, 0, none⟩)]) Tryd.func22 rfl Tryd.ntmps22 Tryd.results22 rfl ?_
  have hS := St.start w0
  refine WC.seq (fun K1 hK1 => ?_)
  refine WC.region ?_
  refine WL.op rfl (opW.boxA hS rfl ?_)
  intro b2 w _ hS
  refine WL.op rfl (opW.assignB rfl ?_)
  refine WL.nil ?_
  refine thenQ_n (hK1 _ _ ?_)
  refine WC.seq (fun K2 hK2 => ?_)
  refine WC.region ?_
  refine WL.op rfl (opW.fieldAddrB rfl ?_)
  refine WL.op rfl (opW.loadV rfl (hS.ld1 (cs := Enc.enc c) (by first | exact .h0 | exact .h1 | exact .h2 | exact .h3 | exact .h4 | exact .h5 | exact .h6 | exact .h7 | exact .h8 | exact .h9 | exact .h10 | exact .h11 | exact .h12 | exact .h13 | exact .h14) (Instr.at_program c)) ?_)
  refine WL.op rfl (opW.conv rfl (wrap_i64 (by have := u8_lt c.program; omega)) ?_)
  refine WL.op rfl (opW.fieldAddrB rfl ?_)
  refine WL.op rfl (opW.loadV rfl ((hp.bel hS.old).ld rfl) ?_)
  refine WL.op rfl (opW.lenV rfl ((hr.bel hS.old)) ?_)
  refine WL.op rfl (opW.geq rfl rfl ?_)
  refine WL.op rfl (opW.assignB rfl ?_)
  refine WL.nil ?_
  refine thenQ_n (hK2 _ _ ?_)
  refine WC.ret ?_
  refine bodyQ_ret (.tmpB rfl .nil) ?_
  exact ⟨rfl, hS.old⟩

theorem progB_ok (w0 : World) (xp : Value) (c : Instr) : Ret Tryd.prog 35 #[xp, .agg (Enc.enc c)] w0 (fun u w' => u = .nilIface ∧ Bel w0 w') := by
  refine Ret.enter (args := [xp, .agg (Enc.enc c)]) Tryd.func35 rfl Tryd.ntmps35 Tryd.results35 rfl ?_
  have hS := St.start w0
  refine WC.seq (fun K1 hK1 => ?_)
  refine WC.region ?_
  refine WL.op rfl (opW.boxA hS rfl ?_)
  intro b3 w _ hS
  refine WL.op rfl (opW.assignV rfl ?_)
  refine WL.nil ?_
  refine thenQ_n (hK1 _ _ ?_)
  refine WC.seq (fun K2 hK2 => ?_)
  refine WC.region ?_
  refine WL.op rfl (opW.assignV rfl ?_)
  refine WL.nil ?_
  refine thenQ_n (hK2 _ _ ?_)
  refine WC.ret ?_
  refine bodyQ_ret (.tmp .nil) ?_
  exact ⟨rfl, hS.old⟩

end Go.Fer
