/- packets.Put -/
import Derived.Test.YtmiacbnmifejdaaPD
set_option linter.all false
namespace Go.Fer
open Go Go.Proofs Go.RowKit

set_option maxRecDepth 20000 in
theorem pput_ok (w0 : World) (t : Tx) (x : TC) (ins : List Instr) (lks : List Lookup) (hx : IsT w0 t x ins lks) (hsg : x.sigs.length ≤ 1500) (hsz : x.m.size ≤ 100000) : Ret Try.prog 11 #[.agg (Enc.enc t)] w0 (fun u w' => ∃ v, u = .tuple #[v, .int .i64 (ptE x)] ∧ New w0 w' v 5 (ptL x) ∧ Bel w0 w' ∧ capV v = (ptL x).length) := by
  refine Ret.enter (args := [.agg (Enc.enc t)]) Try.func11 rfl Try.ntmps11 Try.results11 rfl ?_
  have hS := St.start w0
  have hpl := putF_len x.m
  have hptl := ptB_len x
  refine WC.seq (fun K1 hK1 => ?_)
  refine WC.region ?_
  refine WL.op rfl (opW.boxA hS rfl ?_)
  intro b1 w _ hS
  refine WL.op rfl (opW.assignV (v := .slice none 0 0) rfl ?_)
  refine WL.op rfl (opW.assignI rfl ?_)
  refine WL.nil ?_
  refine thenQ_n (hK1 _ _ ?_)
  refine WC.seq (fun K2 hK2 => ?_)
  refine WC.region ?_
  refine WL.op rfl (opW.fieldAddrB rfl ?_)
  refine WL.op rfl (opW.loadV rfl (hS.ld1 (by first | exact .h0 | exact .h1 | exact .h2 | exact .h3 | exact .h4 | exact .h5 | exact .h6 | exact .h7 | exact .h8 | exact .h9 | exact .h10 | exact .h11 | exact .h12 | exact .h13 | exact .h14) (Tx.at_sigs t)) ?_)
  refine WL.op rfl (opW.lenV rfl ((hx.1.bel hS.old)) ?_)
  refine WL.op rfl (opW.call (put_short _ _ [] x.sigs.length (SlR.nil _) (by simp) (by omega)) rfl ?_)
  rintro _ w ⟨v13, rfl, hn13, hw⟩; replace hS := hS.newOwn hw hn13.1 hn13.2
  rw [List.nil_append] at hS
  have hsb := shortB_le x.sigs.length
  refine WL.op rfl (opW.moveV (v := .tuple #[v13, .int .i64 0]) rfl ?_)
  refine WL.op rfl (opW.extract rfl rfl ?_)
  refine WL.op rfl (opW.extract rfl rfl ?_)
  refine WL.op rfl (opW.assignV (v := v13) rfl ?_)
  refine WL.op rfl (opW.assignI rfl ?_)
  refine WL.nil ?_
  refine thenQ_n (hK2 _ _ ?_)
  refine WC.seq (fun K3 hK3 => ?_)
  refine WC.seq (fun K4 hK4 => ?_)
  refine WC.region ?_
  refine WL.op rfl (opW.moveI rfl ?_)
  refine WL.op rfl (opW.neq rfl rfl ?_)
  refine WL.nil ?_
  refine thenQ_n (hK4 _ _ ?_)
  refine WC.cond _ rfl (fun hc0 => ?_) (fun hc0 => ?_)
  ·
    have hr0 := hc0
    try simp only [decide_eq_true_eq, decide_eq_false_iff_not, Bool.and_eq_true, Bool.or_eq_true, Bool.and_eq_false_iff, Bool.or_eq_false_iff, Bool.not_eq_true', Bool.not_eq_false', Int.not_lt, Int.not_le] at hc0
    exact absurd hr0 (by decide)
  ·
    have hr0 := hc0
    try simp only [decide_eq_true_eq, decide_eq_false_iff_not, Bool.and_eq_true, Bool.or_eq_true, Bool.and_eq_false_iff, Bool.or_eq_false_iff, Bool.not_eq_true', Bool.not_eq_false', Int.not_lt, Int.not_le] at hc0
    refine WC.skip ?_
    refine thenQ_n (hK3 _ _ ?_)
    refine WC.seq (fun K5 hK5 => ?_)
    refine WC.region ?_
    refine WL.op rfl (opW.fieldAddrB rfl ?_)
    refine WL.op rfl (opW.loadV rfl (hS.ldF (by first | exact .h0 | exact .h1 | exact .h2 | exact .h3 | exact .h4 | exact .h5 | exact .h6 | exact .h7 | exact .h8 | exact .h9 | exact .h10 | exact .h11 | exact .h12 | exact .h13 | exact .h14) (Tx.ex_m t) (by rw [Enc.size_eq]; decide)) ?_)
    refine WL.op rfl (opW.call (put_any _ t.m x.m ins lks (hx.2.bel hS.old) hsz) rfl ?_)
    rintro _ w ⟨v22, rfl, hn22, hw⟩; replace hS := hS.newOwn hw hn22.1 hn22.2
    refine WL.op rfl (opW.moveV (v := .tuple #[v22, .int .i64 (putE x.m)]) rfl ?_)
    refine WL.op rfl (opW.extract rfl rfl ?_)
    refine WL.op rfl (opW.extract rfl rfl ?_)
    refine WL.op rfl (opW.assignV (v := v22) rfl ?_)
    refine WL.op rfl (opW.assignI rfl ?_)
    refine WL.nil ?_
    refine thenQ_n (hK5 _ _ ?_)
    refine WC.seq (fun K6 hK6 => ?_)
    refine WC.seq (fun K7 hK7 => ?_)
    refine WC.region ?_
    refine WL.op rfl (opW.moveI rfl ?_)
    refine WL.op rfl (opW.neq rfl rfl ?_)
    refine WL.nil ?_
    refine thenQ_n (hK7 _ _ ?_)
    refine WC.cond _ rfl (fun hc1 => ?_) (fun hc1 => ?_)
    ·
      have hr1 := hc1
      try simp only [decide_eq_true_eq, decide_eq_false_iff_not, Bool.and_eq_true, Bool.or_eq_true, Bool.and_eq_false_iff, Bool.or_eq_false_iff, Bool.not_eq_true', Bool.not_eq_false', Int.not_lt, Int.not_le] at hc1
      have hm : mayF x.m = false := by
        cases h : mayF x.m with
        | false => rfl
        | true => unfold putE at hr1; rw [if_pos h] at hr1; simp at hr1
      refine WC.seq (fun K8 hK8 => ?_)
      refine WC.region ?_
      refine WL.op rfl (opW.moveI rfl ?_)
      refine WL.op rfl (opW.assignV (v := .slice none 0 0) rfl ?_)
      refine WL.op rfl (opW.assignI rfl ?_)
      refine WL.nil ?_
      refine thenQ_n (hK8 _ _ ?_)
      refine WC.ret ?_
      refine thenQ_r ?_
      refine bodyQ_ret (.tmpV (v := .slice none 0 0) rfl (.tmpI rfl .nil)) ?_
      have hpe : ptE x = 1 := by unfold ptE; rw [hm]; rfl
      have hqe : putE x.m = 1 := by unfold putE; rw [hm]; rfl
      have hpl2 : ptL x = [] := by unfold ptL; rw [hpe]; rfl
      refine ⟨_, congrArg (fun e : Int => Value.tuple #[.slice none 0 0, .int .i64 e]) (hqe.trans hpe.symm), ?_, hS.old, by rw [hpl2]; rfl⟩
      rw [hpl2]; exact New.nil _ _ _
    ·
      have hr1 := hc1
      try simp only [decide_eq_true_eq, decide_eq_false_iff_not, Bool.and_eq_true, Bool.or_eq_true, Bool.and_eq_false_iff, Bool.or_eq_false_iff, Bool.not_eq_true', Bool.not_eq_false', Int.not_lt, Int.not_le] at hc1
      have hm : mayF x.m = true := by
        cases h : mayF x.m with
        | true => rfl
        | false => unfold putE at hr1; rw [h] at hr1; simp at hr1
      have hpL : putL2 x.m = putF x.m := if_pos hm
      rw [hpL] at hS
      refine WC.skip ?_
      refine thenQ_n (hK6 _ _ ?_)
      refine WC.seq (fun K9 hK9 => ?_)
      refine WC.seq (fun K10 hK10 => ?_)
      refine WC.region ?_
      refine WL.op rfl (opW.fieldAddrB rfl ?_)
      refine WL.op rfl (opW.loadV rfl (hS.ld1 (by first | exact .h0 | exact .h1 | exact .h2 | exact .h3 | exact .h4 | exact .h5 | exact .h6 | exact .h7 | exact .h8 | exact .h9 | exact .h10 | exact .h11 | exact .h12 | exact .h13 | exact .h14) (Tx.at_sigs t)) ?_)
      refine WL.op rfl (opW.lenV rfl ((hx.1.bel hS.old)) ?_)
      refine WL.op rfl (opW.moveI rfl ?_)
      refine WL.nil ?_
      refine thenQ_n (hK10 _ _ ?_)
      refine WC.block ?_
      refine WC.loop (fun q f w => ∃ (k : Nat) (v : Value), Fits [(4, v), (6, v22), (29, t.sigs.v), (30, .int .i64 (x.sigs.length : Int)), (31, .int .i64 (k : Int))] f ∧ St w0 [ownE v 5 (shortB x.sigs.length ++ sigB (x.sigs.take k)), ownE v22 5 (putF x.m), blkE b1 (Enc.enc t) 33] w ∧ k ≤ x.sigs.length ∧ q = x.sigs.length - k) (x.sigs.length) ?_ ?_
      ·
        refine ⟨0, _, ⟨rfl, rfl, rfl, rfl, rfl, trivial⟩, ?_, Nat.zero_le _, rfl⟩
        rw [List.take_zero]
        show St w0 [ownE v13 5 (shortB x.sigs.length ++ []), ownE v22 5 (putF x.m), blkE b1 (Enc.enc t) 33] _
        rw [List.append_nil]
        exact (hS.pick (e := ownE v13 5 (shortB x.sigs.length)) (by first | exact .h0 | exact .h1 | exact .h2 | exact .h3 | exact .h4 | exact .h5 | exact .h6 | exact .h7 | exact .h8 | exact .h9 | exact .h10 | exact .h11 | exact .h12 | exact .h13 | exact .h14)).sub (by repeat (first | with_reducible exact List.nil_sublist _ | with_reducible exact List.Sublist.refl _ | with_reducible refine List.Sublist.cons₂ _ ?_ | with_reducible refine List.Sublist.cons _ ?_))
      ·
        rintro q f w ⟨k, v, hfit, hS, hk0, hm1⟩
        refine WC.fits _ hfit (fun g => ?_)
        clear hfit
        refine WC.seq (fun K11 hK11 => ?_)
        refine WC.region ?_
        refine WL.op rfl (opW.lss rfl rfl ?_)
        refine WL.nil ?_
        refine thenQ_n (hK11 _ _ ?_)
        refine WC.seq (fun K12 hK12 => ?_)
        refine WC.cond _ rfl (fun hc2 => ?_) (fun hc2 => ?_)
        ·
          have hr2 := hc2
          try simp only [decide_eq_true_eq, decide_eq_false_iff_not, Bool.and_eq_true, Bool.or_eq_true, Bool.and_eq_false_iff, Bool.or_eq_false_iff, Bool.not_eq_true', Bool.not_eq_false', Int.not_lt, Int.not_le] at hc2
          have hkl : k < x.sigs.length := by omega
          have hslen := sigB_len x.sigs k
          have hmin : min k x.sigs.length = k := by omega
          refine WC.skip ?_
          refine thenQ_n (hK12 _ _ ?_)
          refine WC.seq (fun K13 hK13 => ?_)
          refine WC.block ?_
          refine WC.seq (fun K14 hK14 => ?_)
          refine WC.region ?_
          refine WL.op rfl (opW.idxV rfl ((hx.1.bel hS.old)) rfl (by omega) ?_)
          refine WL.op rfl (opW.loadV rfl (((hx.1.bel hS.old).isPt hkl).ldA (Enc.size_eq x.sigs[k])) ?_)
          refine WL.op rfl (opW.allocA hS ?_)
          intro b8 w _ hS
          refine WL.op0 (opW.storeE hS rfl rfl (by first | exact .h0 | exact .h1 | exact .h2 | exact .h3 | exact .h4 | exact .h5 | exact .h6 | exact .h7 | exact .h8 | exact .h9 | exact .h10 | exact .h11 | exact .h12 | exact .h13 | exact .h14) (by first | rfl | exact Enc.size_eq _) ?_)
          intro w hS; replace hS := hS _ (by first | exact .h0 | exact .h1 | exact .h2 | exact .h3 | exact .h4 | exact .h5 | exact .h6 | exact .h7 | exact .h8 | exact .h9 | exact .h10 | exact .h11 | exact .h12 | exact .h13 | exact .h14)
          refine WL.nil ?_
          refine thenQ_n (hK14 _ _ ?_)
          refine WC.region ?_
          refine WL.op rfl (opW.moveV (v := v) rfl ?_)
          refine WL.op rfl (opW.cutArrO rfl ?_)
          refine WL.op rfl (opW.appendOwn (α := UInt8) (v := v) (xs := (shortB x.sigs.length ++ sigB (x.sigs.take k))) rfl hS rfl (by first | exact .h0 | exact .h1 | exact .h2 | exact .h3 | exact .h4 | exact .h5 | exact .h6 | exact .h7 | exact .h8 | exact .h9 | exact .h10 | exact .h11 | exact .h12 | exact .h13 | exact .h14) (SlR.ofPt (n := 63) (v := x.sigs[k]) (hS.pt (by first | exact .h0 | exact .h1 | exact .h2 | exact .h3 | exact .h4 | exact .h5 | exact .h6 | exact .h7 | exact .h8 | exact .h9 | exact .h10 | exact .h11 | exact .h12 | exact .h13 | exact .h14)) (by decide)) (by (try simp only [List.length_append, List.length_cons, List.length_nil, Vector.length_toList]); omega) (by (try simp only [List.length_append, List.length_cons, List.length_nil, Vector.length_toList, maxLen]); omega) ?_)
          intro v37 w hS; replace hS := hS _ (by first | exact .h0 | exact .h1 | exact .h2 | exact .h3 | exact .h4 | exact .h5 | exact .h6 | exact .h7 | exact .h8 | exact .h9 | exact .h10 | exact .h11 | exact .h12 | exact .h13 | exact .h14)
          refine WL.op rfl (opW.assignV (v := v37) rfl ?_)
          refine WL.nil ?_
          refine blockQ_n ?_
          refine thenQ_n (hK13 _ _ ?_)
          refine WC.region ?_
          refine WL.op rfl (opW.add rfl rfl (wrap_i64 (by omega)) ?_)
          refine WL.op rfl (opW.moveI rfl ?_)
          refine WL.nil ?_
          refine thenQ_n ?_
          rw [List.append_assoc, ← sigB_step hkl] at hS
          exact ⟨x.sigs.length - (k + 1), by omega, k + 1, v37, ⟨rfl, rfl, rfl, rfl, congrArg (Value.int .i64) (by omega), trivial⟩, (hS.pick (e := ownE v37 5 (shortB x.sigs.length ++ sigB (x.sigs.take (k + 1)))) (by first | exact .h0 | exact .h1 | exact .h2 | exact .h3 | exact .h4 | exact .h5 | exact .h6 | exact .h7 | exact .h8 | exact .h9 | exact .h10 | exact .h11 | exact .h12 | exact .h13 | exact .h14)).sub (by repeat (first | with_reducible exact List.nil_sublist _ | with_reducible exact List.Sublist.refl _ | with_reducible refine List.Sublist.cons₂ _ ?_ | with_reducible refine List.Sublist.cons _ ?_)), by omega, rfl⟩
        ·
          have hr2 := hc2
          try simp only [decide_eq_true_eq, decide_eq_false_iff_not, Bool.and_eq_true, Bool.or_eq_true, Bool.and_eq_false_iff, Bool.or_eq_false_iff, Bool.not_eq_true', Bool.not_eq_false', Int.not_lt, Int.not_le] at hc2
          obtain rfl : k = x.sigs.length := by omega
          have hslen := sigB_len x.sigs x.sigs.length
          have hmin : min x.sigs.length x.sigs.length = x.sigs.length := by omega
          refine WC.exit ?_
          refine thenQ_e ?_
          refine thenQ_e ?_
          refine blockQ_hit ?_
          refine thenQ_n (hK9 _ _ ?_)
          refine WC.seq (fun K15 hK15 => ?_)
          refine WC.seq (fun K16 hK16 => ?_)
          refine WC.region ?_
          refine WL.op rfl (opW.moveV (v := v) rfl ?_)
          refine WL.op rfl (opW.moveV (v := v22) rfl ?_)
          refine WL.op rfl (opW.appendOwn (α := UInt8) (v := v) (xs := (shortB x.sigs.length ++ sigB (x.sigs.take x.sigs.length))) rfl hS rfl (by first | exact .h0 | exact .h1 | exact .h2 | exact .h3 | exact .h4 | exact .h5 | exact .h6 | exact .h7 | exact .h8 | exact .h9 | exact .h10 | exact .h11 | exact .h12 | exact .h13 | exact .h14) (hS.sl (v := v22) (xs := putF x.m) (by first | exact .h0 | exact .h1 | exact .h2 | exact .h3 | exact .h4 | exact .h5 | exact .h6 | exact .h7 | exact .h8 | exact .h9 | exact .h10 | exact .h11 | exact .h12 | exact .h13 | exact .h14)) (by (try simp only [List.length_append, List.length_cons, List.length_nil, Vector.length_toList]); omega) (by (try simp only [List.length_append, List.length_cons, List.length_nil, Vector.length_toList, maxLen]); omega) ?_)
          intro v41 w hS; replace hS := hS _ (by first | exact .h0 | exact .h1 | exact .h2 | exact .h3 | exact .h4 | exact .h5 | exact .h6 | exact .h7 | exact .h8 | exact .h9 | exact .h10 | exact .h11 | exact .h12 | exact .h13 | exact .h14)
          refine WL.op rfl (opW.assignV (v := v41) rfl ?_)
          have hlim : (ptB x).length = ((shortB x.sigs.length ++ sigB (x.sigs.take x.sigs.length)) ++ putF x.m).length := by unfold ptB; rw [List.take_length]
          replace hS := hS.pick (e := ownE v41 5 ((shortB x.sigs.length ++ sigB (x.sigs.take x.sigs.length)) ++ putF x.m)) (by first | exact .h0 | exact .h1 | exact .h2 | exact .h3 | exact .h4 | exact .h5 | exact .h6 | exact .h7 | exact .h8 | exact .h9 | exact .h10 | exact .h11 | exact .h12 | exact .h13 | exact .h14)
          rw [show (shortB x.sigs.length ++ sigB (x.sigs.take x.sigs.length)) ++ putF x.m = ptB x from by unfold ptB; rw [List.take_length]] at hS hlim
          refine WL.nil ?_
          refine thenQ_n (hK16 _ _ ?_)
          refine WC.seq (fun K17 hK17 => ?_)
          refine WC.region ?_
          refine WL.op rfl (opW.moveV (v := v41) rfl ?_)
          refine WL.op rfl (opW.lenV rfl ((hS.sl (v := v41) (xs := ptB x) (by first | exact .h0 | exact .h1 | exact .h2 | exact .h3 | exact .h4 | exact .h5 | exact .h6 | exact .h7 | exact .h8 | exact .h9 | exact .h10 | exact .h11 | exact .h12 | exact .h13 | exact .h14))) ?_)
          refine WL.op rfl (opW.gtr rfl rfl ?_)
          refine WL.nil ?_
          refine thenQ_n (hK17 _ _ ?_)
          refine WC.cond _ rfl (fun hc3 => ?_) (fun hc3 => ?_)
          ·
            have hr3 := hc3
            try simp only [decide_eq_true_eq, decide_eq_false_iff_not, Bool.and_eq_true, Bool.or_eq_true, Bool.and_eq_false_iff, Bool.or_eq_false_iff, Bool.not_eq_true', Bool.not_eq_false', Int.not_lt, Int.not_le] at hc3
            refine WC.seq (fun K18 hK18 => ?_)
            refine WC.region ?_
            refine WL.op rfl (opW.assignV (v := .slice none 0 0) rfl ?_)
            refine WL.op rfl (opW.assignI rfl ?_)
            refine WL.nil ?_
            refine thenQ_n (hK18 _ _ ?_)
            refine WC.ret ?_
            refine thenQ_r ?_
            refine bodyQ_ret (.tmpV (v := .slice none 0 0) rfl (.tmpI rfl .nil)) ?_
            have hpe : ptE x = 3 := by unfold ptE; rw [if_pos hm, if_pos (by have := hlim; omega)]
            have hpl2 : ptL x = [] := by unfold ptL; rw [hpe]; rfl
            refine ⟨_, congrArg (fun e : Int => Value.tuple #[.slice none 0 0, .int .i64 e]) hpe.symm, ?_, hS.old, by rw [hpl2]; rfl⟩
            rw [hpl2]; exact New.nil _ _ _
          ·
            have hr3 := hc3
            try simp only [decide_eq_true_eq, decide_eq_false_iff_not, Bool.and_eq_true, Bool.or_eq_true, Bool.and_eq_false_iff, Bool.or_eq_false_iff, Bool.not_eq_true', Bool.not_eq_false', Int.not_lt, Int.not_le] at hc3
            refine WC.skip ?_
            refine thenQ_n (hK15 _ _ ?_)
            refine WC.seq (fun K19 hK19 => ?_)
            refine WC.region ?_
            refine WL.op rfl (opW.moveV (v := v41) rfl ?_)
            refine WL.op rfl (opW.call (clip_b _ _ (ptB x) (hS.sl (v := v41) (xs := ptB x) (by first | exact .h0 | exact .h1 | exact .h2 | exact .h3 | exact .h4 | exact .h5 | exact .h6 | exact .h7 | exact .h8 | exact .h9 | exact .h10 | exact .h11 | exact .h12 | exact .h13 | exact .h14))) rfl ?_)
            rintro v46 w ⟨hv46, hw⟩; replace hS := hS.bel hw
            refine WL.op rfl (opW.assignV (v := v46) rfl ?_)
            refine WL.op rfl (opW.assignI rfl ?_)
            refine WL.nil ?_
            refine thenQ_n (hK19 _ _ ?_)
            refine WC.ret ?_
            refine bodyQ_ret (.tmpV (v := v46) rfl (.tmpI rfl .nil)) ?_
            subst hv46
            have hpe : ptE x = 0 := by unfold ptE; rw [if_pos hm, if_neg (by have := hlim; omega)]
            have hpl2 : ptL x = ptB x := by unfold ptL; rw [if_pos hpe]
            refine ⟨_, congrArg (fun e : Int => Value.tuple #[cutV v41 0 (ptB x).length (ptB x).length (Enc.sz UInt8), .int .i64 e]) hpe.symm, ?_, hS.old, by rw [hpl2]; exact capV_cut0 _ _ _ _ (by obtain ⟨a, c, he⟩ := (hS.sl (v := v41) (xs := ptB x) (by first | exact .h0 | exact .h1 | exact .h2 | exact .h3 | exact .h4 | exact .h5 | exact .h6 | exact .h7 | exact .h8 | exact .h9 | exact .h10 | exact .h11 | exact .h12 | exact .h13 | exact .h14)).eq; exact ⟨a, _, c, he⟩)⟩
            rw [hpl2]; exact New.cut (v := v41) (hS.own_new (v := v41) (xs := ptB x) (by first | exact .h0 | exact .h1 | exact .h2 | exact .h3 | exact .h4 | exact .h5 | exact .h6 | exact .h7 | exact .h8 | exact .h9 | exact .h10 | exact .h11 | exact .h12 | exact .h13 | exact .h14))

end Go.Fer
