/- SystemsRoles -/
import Derived.Test.YtcjhdnedbkmgaaaN
import Derived.Test.YtcjhdnedbkmgaaaP
set_option linter.all false
namespace Go.Fer
open Go Go.Proofs Go.RowKit

theorem lacks_app (n : Nat) (a b : List UInt8) : lacks n (a ++ b) = (lacks n a || lacks n b) := by simp [lacks]
theorem lacks_next {n : Nat} {l : List UInt8} {k : Nat} (hk : k < l.length) : (!lacks n (l.take (k + 1))) = (!lacks n (l.take k) && decide ((l[k].toNat : Int) < (n : Int))) := by
  rw [List.take_succ_eq_append_getElem hk, lacks_app, Bool.not_or]
  congr 1
  unfold lacks
  simp only [List.any_cons, List.any_nil, Bool.or_false]
  by_cases h : (n : Int) ≤ (l[k].toNat : Int)
  · rw [decide_eq_true h, decide_eq_false (by omega)]; rfl
  · rw [decide_eq_false h, decide_eq_true (by omega)]; rfl
theorem DoOk.first {l : List Account} {r : List Role} {ats dt : List UInt8} {x : Ask} {a b : Nat} (h : DoOk l r ats dt x a b) : a = (ats[0]'h.h0).toNat := by
  exact h.ea.trans (by rw [getD_of h.h0])
theorem roles_more {l : List Account} {r : List Role} {ats dt more : List UInt8} {x : Ask} {a b : Nat} (h : DoOk l r ats dt x a b) (hm : lacks l.length more = false) : doF l r (ats ++ more) dt = doF l r ats dt := by
  obtain ⟨hnl, hlk⟩ := takF_ok h.tak
  have hn := need_12 x.tag
  rw [doF_x h.len h.ask, doF_x h.len h.ask]
  have e1 : takF x.tag r (ats ++ more) = takF x.tag r ats := by
    unfold takF
    rw [lacks_app, hlk, ← h.len, hm, List.take_append_of_le_length hnl, List.length_append, decide_eq_false (by omega), decide_eq_false (by omega)]; rfl
  have e2 : ∀ i, i < ats.length → (ats ++ more).getD i 0 = ats.getD i 0 := fun i hi => by
    rw [List.getD_eq_getElem?_getD, List.getD_eq_getElem?_getD, List.getElem?_append_left hi]
  unfold doX
  rw [e1, e2 0 h.h0, e2 (need x.tag - 1) (by omega)]
theorem roles_8 {l : List Account} {r : List Role} {ats dt more : List UInt8} {x : Ask} {a b : Nat} (h : DoOk l r ats dt x a b) (hm : lacks l.length more = true) : doF l r (ats ++ more) dt = (8, 0, []) := by
  have e1 : takF x.tag r (ats ++ more) = 8 := by
    unfold takF
    rw [lacks_app, ← h.len, hm, Bool.or_true, Bool.or_true, if_pos rfl]
  rw [doF_tak h.len h.ask (by rw [e1]; decide), e1]
theorem tak_first {l : List Account} {r : List Role} {ats dt : List UInt8} {x : Ask} {a b : Nat} {e : Int} (h : DoOk l r ats dt x a b) (ρ : Role) (he : roleErr x.tag (r.set a ρ) 0 (ats[0]'h.h0) = e) (hne : e ≠ 0) : doF l (r.set a ρ) ats dt = (e, 0, []) := by
  obtain ⟨hnl, hlk⟩ := takF_ok h.tak
  have hn := need_12 x.tag
  have e1 : takF x.tag (r.set a ρ) ats = e := by
    unfold takF
    rw [List.length_set, hlk, decide_eq_false (by omega), if_neg (by decide)]
    have h0 : 0 < (ats.take (need x.tag)).length := by rw [List.length_take]; have := h.h0; omega
    have := roleErrs_hit (t := x.tag) (r := r.set a ρ) (l := ats.take (need x.tag)) (k := 0) (e := e) h0 (by rw [List.getElem_take]; exact he) hne
    rwa [List.drop_zero] at this
  rw [doF_tak (by rw [List.length_set]; exact h.len) h.ask (by rw [e1]; exact hne), e1]
theorem roles_14 {l : List Account} {r : List Role} {ats dt : List UInt8} {x : Ask} {a b : Nat} (h : DoOk l r ats dt x a b) (k : Key) (w : Bool) : doF l (r.set a ⟨k, false, w⟩) ats dt = (14, 0, []) := by
  have har : a < r.length := h.len ▸ h.ha
  refine tak_first h _ ?_ (by decide)
  have e := h.first
  refine roleErr_s (by rw [List.length_set, ← e]; exact har) ?_
  have e2 : (r.set a (⟨k, false, w⟩ : Role))[(ats[0]'h.h0).toNat]'(by rw [List.length_set, ← e]; exact har) = ⟨k, false, w⟩ := by
    simp only [← e, List.getElem_set_self]
  rw [e2]
  simp
theorem roles_15 {l : List Account} {r : List Role} {ats dt : List UInt8} {x : Ask} {a b : Nat} (h : DoOk l r ats dt x a b) (k : Key) : doF l (r.set a ⟨k, true, false⟩) ats dt = (15, 0, []) := by
  have har : a < r.length := h.len ▸ h.ha
  refine tak_first h _ ?_ (by decide)
  have e := h.first
  have e2 : (r.set a (⟨k, true, false⟩ : Role))[(ats[0]'h.h0).toNat]'(by rw [List.length_set, ← e]; exact har) = ⟨k, true, false⟩ := by
    simp only [← e, List.getElem_set_self]
  refine roleErr_w (by rw [List.length_set, ← e]; exact har) (by rw [e2]; rfl) (by rw [e2]; rfl)

set_option maxRecDepth 20000 in
set_option maxHeartbeats 4000000 in
theorem roles_law (w0 : World) (q : LAsk) (vm : Value) (more : List UInt8) (hq : q.ok w0) (hm : SlR w0 vm more) : Ret Try.prog 7 #[.agg (Enc.enc q), vm] w0 (fun r w' => r = .bool true ∧ Bel w0 w') := by
  refine Ret.enter (args := [.agg (Enc.enc q), vm]) Try.func7 rfl Try.ntmps7 Try.results7 rfl ?_
  have hS := St.start w0
  obtain ⟨l, r, ats, dt, hl, hr, ha, hd, hlw⟩ := LAsk.opened hq
  refine WC.seq (fun K1 hK1 => ?_)
  refine WC.region ?_
  refine WL.op rfl (opW.boxA hS rfl ?_)
  intro b2 w _ hS
  refine WL.op rfl (opW.assignB rfl ?_)
  refine WL.nil ?_
  refine thenQ_n (hK1 _ _ ?_)
  refine WC.seq (fun K2 hK2 => ?_)
  refine WC.seq (fun K3 hK3 => ?_)
  refine WC.region ?_
  refine WL.op rfl (opW.loadV rfl (hS.ldA (cs := Enc.enc q) (by first | exact .h0 | exact .h1 | exact .h2 | exact .h3 | exact .h4 | exact .h5 | exact .h6 | exact .h7 | exact .h8 | exact .h9 | exact .h10 | exact .h11 | exact .h12 | exact .h13 | exact .h14) (Enc.size_eq _)) ?_)
  refine WL.op rfl (opW.call (great14 _ q l r ats dt (hl.bel hS.old) (hr.bel hS.old) (ha.bel hS.old) (hd.bel hS.old)) rfl ?_)
  rintro _ w ⟨gb, rfl, hgb, hw⟩; replace hS := hS.bel hw
  refine WL.op rfl (opW.moveB rfl ?_)
  refine WL.gd _ 24 _ rfl rfl rfl rfl (fun hg25 => opW.moveV (v := vm) rfl ⟨rfl, Bel.refl _⟩) (fun w hw => ?_)
  replace hS := hS.bel hw
  refine WL.gd _ 24 _ rfl rfl rfl rfl (fun hg26 => opW.lenV (by first | exact gv_of rfl hg26 | rfl) ((hm.bel hS.old)) ⟨rfl, Bel.refl _⟩) (fun w hw => ?_)
  replace hS := hS.bel hw
  refine WL.gd _ 24 _ rfl rfl rfl rfl (fun hg27 => opW.gtr (by first | exact gv_of rfl hg27 | rfl) rfl ⟨rfl, Bel.refl _⟩) (fun w hw => ?_)
  replace hS := hS.bel hw
  refine WL.op rfl (opW.pickOr rfl rfl (by first | rfl) ?_)
  refine WL.nil ?_
  refine thenQ_n (hK3 _ _ ?_)
  refine WC.cond _ rfl (fun hc0 => ?_) (fun hc0 => ?_)
  ·
    have hr0 := hc0
    try simp only [decide_eq_true_eq, decide_eq_false_iff_not, Bool.and_eq_true, Bool.or_eq_true, Bool.and_eq_false_iff, Bool.or_eq_false_iff, Bool.not_eq_true', Bool.not_eq_false', Int.not_lt, Int.not_le] at hc0
    refine WC.seq (fun K4 hK4 => ?_)
    refine WC.region ?_
    refine WL.op rfl (opW.call (lives14 _) rfl ?_)
    rintro _ w ⟨rfl, hw⟩; replace hS := hS.bel hw
    refine WL.op rfl (opW.assignB rfl ?_)
    refine WL.nil ?_
    refine thenQ_n (hK4 _ _ ?_)
    refine WC.ret ?_
    refine thenQ_r ?_
    refine bodyQ_ret (.tmpB rfl .nil) ?_
    exact ⟨rfl, hS.old⟩
  ·
    have hr0 := hc0
    try simp only [decide_eq_true_eq, decide_eq_false_iff_not, Bool.and_eq_true, Bool.or_eq_true, Bool.and_eq_false_iff, Bool.or_eq_false_iff, Bool.not_eq_true', Bool.not_eq_false', Int.not_lt, Int.not_le] at hc0
    obtain ⟨hg0, hg1⟩ := Bool.or_eq_false_iff.1 hr0
    simp only [decide_eq_false_iff_not] at hg1
    obtain ⟨hb1, hb2, hb3, hb4⟩ := hgb hg0
    refine WC.skip ?_
    refine thenQ_n (hK2 _ _ ?_)
    refine WC.seq (fun K5 hK5 => ?_)
    refine WC.region ?_
    refine WL.op rfl (opW.fieldAddrB rfl ?_)
    refine WL.op rfl (opW.loadV rfl (hS.ld1 (by first | exact .h0 | exact .h1 | exact .h2 | exact .h3 | exact .h4 | exact .h5 | exact .h6 | exact .h7 | exact .h8 | exact .h9 | exact .h10 | exact .h11 | exact .h12 | exact .h13 | exact .h14) (LAsk.at_l q)) ?_)
    refine WL.op rfl (opW.fieldAddrB rfl ?_)
    refine WL.op rfl (opW.loadV rfl (hS.ld1 (by first | exact .h0 | exact .h1 | exact .h2 | exact .h3 | exact .h4 | exact .h5 | exact .h6 | exact .h7 | exact .h8 | exact .h9 | exact .h10 | exact .h11 | exact .h12 | exact .h13 | exact .h14) (LAsk.at_r q)) ?_)
    refine WL.op rfl (opW.fieldAddrB rfl ?_)
    refine WL.op rfl (opW.loadV rfl (hS.ldF (cs := Enc.enc q) (o := 2) (by first | exact .h0 | exact .h1 | exact .h2 | exact .h3 | exact .h4 | exact .h5 | exact .h6 | exact .h7 | exact .h8 | exact .h9 | exact .h10 | exact .h11 | exact .h12 | exact .h13 | exact .h14) (LAsk.ex_in_ q) (by rw [Enc.size_eq]; decide)) ?_)
    refine WL.op rfl (opW.call (do_ok _ _ _ q.in_ l r ats dt (hl.bel hS.old) (hr.bel hS.old) (ha.bel hS.old) (hd.bel hS.old) (by omega) hlw) rfl ?_)
    rintro _ w ⟨v37, rfl, hn37, hw⟩
    replace hS := hS.newOwn hw hn37.1 hn37.2
    refine WL.op rfl (opW.moveV (v := .tuple #[v37, .int .u64 ((doF l r ats dt).2.1 : Int), .int .i64 (doF l r ats dt).1]) rfl ?_)
    refine WL.op rfl (opW.extract rfl rfl ?_)
    refine WL.op rfl (opW.extract rfl rfl ?_)
    refine WL.op rfl (opW.extract rfl rfl ?_)
    refine WL.op rfl (opW.assignV (v := v37) rfl ?_)
    refine WL.op rfl (opW.assignI rfl ?_)
    refine WL.op rfl (opW.assignI rfl ?_)
    refine WL.nil ?_
    refine thenQ_n (hK5 _ _ ?_)
    refine WC.seq (fun K6 hK6 => ?_)
    refine WC.seq (fun K7 hK7 => ?_)
    refine WC.region ?_
    refine WL.op rfl (opW.moveI rfl ?_)
    refine WL.op rfl (opW.neq rfl rfl ?_)
    refine WL.nil ?_
    refine thenQ_n (hK7 _ _ ?_)
    refine WC.cond _ rfl (fun hc1 => ?_) (fun hc1 => ?_)
    ·
      have hr1 := hc1
      try simp only [decide_eq_true_eq, decide_eq_false_iff_not, Bool.and_eq_true, Bool.or_eq_true, Bool.and_eq_false_iff, Bool.or_eq_false_iff, Bool.not_eq_true', Bool.not_eq_false', Int.not_lt, Int.not_le] at hc1
      refine WC.seq (fun K8 hK8 => ?_)
      refine WC.region ?_
      refine WL.op rfl (opW.call (lives14 _) rfl ?_)
      rintro _ w ⟨rfl, hw⟩; replace hS := hS.bel hw
      refine WL.op rfl (opW.assignB rfl ?_)
      refine WL.nil ?_
      refine thenQ_n (hK8 _ _ ?_)
      refine WC.ret ?_
      refine thenQ_r ?_
      refine bodyQ_ret (.tmpB rfl .nil) ?_
      exact ⟨rfl, hS.old⟩
    ·
      have hr1 := hc1
      try simp only [decide_eq_true_eq, decide_eq_false_iff_not, Bool.and_eq_true, Bool.or_eq_true, Bool.and_eq_false_iff, Bool.or_eq_false_iff, Bool.not_eq_true', Bool.not_eq_false', Int.not_lt, Int.not_le] at hc1
      have he : (doF l r ats dt).1 = 0 := by simpa using hr1
      obtain ⟨x, a, b, hok⟩ := doF_ok he
      have hres := hok.res
      generalize actL x l a b _ _ = out at hres
      have e2 : (doF l r ats dt).2.1 = x.space := by rw [hres]
      have e3 : (doF l r ats dt).2.2 = out := by rw [hres]
      rw [e3] at hS
      rw [e2, he]
      have hlr := hok.len
      have h0l := hok.h0
      have hfa := hok.first
      have hal := hok.ha
      have har : a < r.length := hlr ▸ hal
      have hml := hm.le
      simp only [maxLen] at hml
      refine WC.skip ?_
      refine thenQ_n (hK6 _ _ ?_)
      refine WC.seq (fun K9 hK9 => ?_)
      refine WC.region ?_
      refine WL.op rfl (opW.fieldAddrB rfl ?_)
      refine WL.op rfl (opW.loadV rfl (hS.ldF (cs := Enc.enc q) (o := 2) (by first | exact .h0 | exact .h1 | exact .h2 | exact .h3 | exact .h4 | exact .h5 | exact .h6 | exact .h7 | exact .h8 | exact .h9 | exact .h10 | exact .h11 | exact .h12 | exact .h13 | exact .h14) (LAsk.ex_in_ q) (by rw [Enc.size_eq]; decide)) ?_)
      refine WL.op rfl (opW.allocA hS ?_)
      intro b8 w _ hS
      refine WL.op0 (opW.storeE hS rfl rfl (by first | exact .h0 | exact .h1 | exact .h2 | exact .h3 | exact .h4 | exact .h5 | exact .h6 | exact .h7 | exact .h8 | exact .h9 | exact .h10 | exact .h11 | exact .h12 | exact .h13 | exact .h14) (by first | rfl | exact Enc.size_eq _) ?_)
      intro w hS; replace hS := hS _ (by first | exact .h0 | exact .h1 | exact .h2 | exact .h3 | exact .h4 | exact .h5 | exact .h6 | exact .h7 | exact .h8 | exact .h9 | exact .h10 | exact .h11 | exact .h12 | exact .h13 | exact .h14)
      refine WL.nil ?_
      refine thenQ_n (hK9 _ _ ?_)
      refine WC.seq (fun K10 hK10 => ?_)
      refine WC.region ?_
      refine WL.op rfl (opW.fieldAddrB rfl ?_)
      refine WL.op rfl (opW.fieldAddrB rfl ?_)
      refine WL.op rfl (opW.loadV rfl (hS.ld1 (by first | exact .h0 | exact .h1 | exact .h2 | exact .h3 | exact .h4 | exact .h5 | exact .h6 | exact .h7 | exact .h8 | exact .h9 | exact .h10 | exact .h11 | exact .h12 | exact .h13 | exact .h14) (LAsk.at_in__accounts q)) ?_)
      refine WL.op rfl (opW.appendNil (α := UInt8) rfl hS rfl (ha.bel hS.old) (by omega) (by simp only [maxLen]; omega) ?_)
      intro v49 w hw hS
      obtain ⟨s49, rfl⟩ := (hS.sl (v := v49) (xs := ats) (by first | exact .h0 | exact .h1 | exact .h2 | exact .h3 | exact .h4 | exact .h5 | exact .h6 | exact .h7 | exact .h8 | exact .h9 | exact .h10 | exact .h11 | exact .h12 | exact .h13 | exact .h14)).asV
      refine WL.op rfl (opW.fieldAddrB rfl ?_)
      refine WL.op0 (opW.storeF (v := s49.v) (sz := 1) (cs' := Enc.enc ({ q.in_ with accounts := s49 } : Instr)) hS rfl rfl (by first | exact .h0 | exact .h1 | exact .h2 | exact .h3 | exact .h4 | exact .h5 | exact .h6 | exact .h7 | exact .h8 | exact .h9 | exact .h10 | exact .h11 | exact .h12 | exact .h13 | exact .h14) rfl (by rw [Enc.size_eq]; decide) (Enc.one (α := SlV) s49) (Instr.set_accounts q.in_ s49) ?_)
      intro w hS; replace hS := hS _ (by first | exact .h0 | exact .h1 | exact .h2 | exact .h3 | exact .h4 | exact .h5 | exact .h6 | exact .h7 | exact .h8 | exact .h9 | exact .h10 | exact .h11 | exact .h12 | exact .h13 | exact .h14)
      refine WL.nil ?_
      refine thenQ_n (hK10 _ _ ?_)
      refine WC.seq (fun K11 hK11 => ?_)
      refine WC.region ?_
      refine WL.op rfl (opW.assignB rfl ?_)
      refine WL.nil ?_
      refine thenQ_n (hK11 _ _ ?_)
      refine WC.seq (fun K12 hK12 => ?_)
      refine WC.seq (fun K13 hK13 => ?_)
      refine WC.region ?_
      refine WL.op rfl (opW.assignI rfl ?_)
      refine WL.nil ?_
      refine thenQ_n (hK13 _ _ ?_)
      refine WC.block ?_
      refine WC.loop (fun q1 f w => ∃ (k : Nat) (sa : SlV), Fits [(1, vm), (2, .pointer (some ⟨b2, 0, none⟩)), (5, v37), (6, .int .u64 ((x.space : Nat) : Int)), (8, .pointer (some ⟨b8, 0, none⟩)), (9, .bool (!lacks l.length (more.take k))), (10, .int .i64 (k : Int))] f ∧ St w0 [ownE sa.v 5 (ats ++ (more.take k)), blkE b8 (Enc.enc ({ q.in_ with accounts := sa } : Instr)) 26, ownE v37 48 out, blkE b2 (Enc.enc q) 28] w ∧ k ≤ more.length ∧ q1 = more.length - k) (more.length) ?_ ?_
      ·
        exact ⟨0, s49, ⟨rfl, rfl, rfl, rfl, rfl, rfl, rfl, trivial⟩, (by rw [List.take_zero, List.append_nil]; exact hS), Nat.zero_le _, rfl⟩
      ·
        rintro q1 f w ⟨k, sa, hfit, hS, hk0, hmm⟩
        refine WC.fits _ hfit (fun g => ?_)
        clear hfit
        refine WC.seq (fun K14 hK14 => ?_)
        refine WC.seq (fun K15 hK15 => ?_)
        refine WC.region ?_
        refine WL.op rfl (opW.moveI rfl ?_)
        refine WL.op rfl (opW.moveV (v := vm) rfl ?_)
        refine WL.op rfl (opW.lenV rfl ((hm.bel hS.old)) ?_)
        refine WL.op rfl (opW.lss rfl rfl ?_)
        refine WL.nil ?_
        refine thenQ_n (hK15 _ _ ?_)
        refine WC.cond _ rfl (fun hc2 => ?_) (fun hc2 => ?_)
        ·
          have hr2 := hc2
          try simp only [decide_eq_true_eq, decide_eq_false_iff_not, Bool.and_eq_true, Bool.or_eq_true, Bool.and_eq_false_iff, Bool.or_eq_false_iff, Bool.not_eq_true', Bool.not_eq_false', Int.not_lt, Int.not_le] at hc2
          have hkl : k < more.length := by omega
          have hub := u8_lt more[k]
          have htk : (more.take k).length = k := by simp; omega
          refine WC.skip ?_
          refine thenQ_n (hK14 _ _ ?_)
          refine WC.seq (fun K16 hK16 => ?_)
          refine WC.block ?_
          refine WC.seq (fun K17 hK17 => ?_)
          refine WC.draw 7 (.look 0 (.look 1 (.look 2 (.look 3 (.look 4 (.look 5 (.one 6 (.one 7 (.one 8 (.one 9 .nil)))))))))) (by kernel_rfl) (fun _ _ _ h => h) (fun w1 hw1 => ?_)
          replace hS := hS.bel hw1
          have hS1 := hS
          have hT := St.start w1
          refine ML.look rfl rfl rfl (fun w hw => (by have hS := hS1.bel hw; exact opW.fieldAddrB rfl ⟨rfl, rfl⟩)) ?_
          refine ML.look rfl rfl rfl (fun w hw => (by have hS := hS1.bel hw; exact opW.loadV rfl (hS.ld1 (by first | exact .h0 | exact .h1 | exact .h2 | exact .h3 | exact .h4 | exact .h5 | exact .h6 | exact .h7 | exact .h8 | exact .h9 | exact .h10 | exact .h11 | exact .h12 | exact .h13 | exact .h14) (Instr.at_accounts ({ q.in_ with accounts := sa } : Instr))) ⟨rfl, rfl⟩)) ?_
          refine ML.look rfl rfl rfl (fun w hw => (by have hS := hS1.bel hw; exact opW.moveV (v := vm) rfl ⟨rfl, rfl⟩)) ?_
          refine ML.look rfl rfl rfl (fun w hw => (by have hS := hS1.bel hw; exact opW.moveI rfl ⟨rfl, rfl⟩)) ?_
          refine ML.look rfl rfl rfl (fun w hw => (by have hS := hS1.bel hw; exact opW.idxV rfl ((hm.bel hS.old)) rfl (by omega) ⟨rfl, rfl⟩)) ?_
          refine ML.look rfl rfl rfl (fun w hw => (by have hS := hS1.bel hw; exact opW.loadV rfl (((hm.bel hS.old).isPt hkl).ld rfl) ⟨rfl, rfl⟩)) ?_
          refine ML.one rfl rfl rfl (opW.buildSl hT (([more[k]] : List UInt8)) [.int .u8 (more[k].toNat : Int)] rfl rfl rfl rfl (by decide) ?_)
          intro b63 w hw hT
          refine ⟨hT.old, ?_⟩
          have hS := hS1.merge hT
          try simp only [List.cons_append, List.nil_append] at hS
          refine ML.put1 rfl rfl rfl rfl (opW.appendOwn (α := UInt8) (v := sa.v) (xs := ats ++ (more.take k)) rfl hS rfl (by first | exact .h0 | exact .h1 | exact .h2 | exact .h3 | exact .h4 | exact .h5 | exact .h6 | exact .h7 | exact .h8 | exact .h9 | exact .h10 | exact .h11 | exact .h12 | exact .h13 | exact .h14) (hS.sl (xs := ([more[k]] : List UInt8)) (by first | exact .h0 | exact .h1 | exact .h2 | exact .h3 | exact .h4 | exact .h5 | exact .h6 | exact .h7 | exact .h8 | exact .h9 | exact .h10 | exact .h11 | exact .h12 | exact .h13 | exact .h14)) (by simp only [List.length_append, List.length_cons, List.length_nil]; omega) (by simp only [maxLen, List.length_append, List.length_cons, List.length_nil]; omega) ?_)
          intro v64 w hS; replace hS := hS _ (by first | exact .h0 | exact .h1 | exact .h2 | exact .h3 | exact .h4 | exact .h5 | exact .h6 | exact .h7 | exact .h8 | exact .h9 | exact .h10 | exact .h11 | exact .h12 | exact .h13 | exact .h14)
          obtain ⟨s64, rfl⟩ := (hS.sl (v := v64) (xs := ats ++ (more.take k) ++ [more[k]]) (by first | exact .h0 | exact .h1 | exact .h2 | exact .h3 | exact .h4 | exact .h5 | exact .h6 | exact .h7 | exact .h8 | exact .h9 | exact .h10 | exact .h11 | exact .h12 | exact .h13 | exact .h14)).asV
          refine ML.put1 rfl rfl rfl rfl (opW.fieldAddrB rfl ?_)
          refine ML.put0 rfl rfl rfl (opW.storeF (v := s64.v) (sz := 1) (cs' := Enc.enc ({ q.in_ with accounts := s64 } : Instr)) hS rfl rfl (by first | exact .h0 | exact .h1 | exact .h2 | exact .h3 | exact .h4 | exact .h5 | exact .h6 | exact .h7 | exact .h8 | exact .h9 | exact .h10 | exact .h11 | exact .h12 | exact .h13 | exact .h14) rfl (by rw [Enc.size_eq]; decide) (Enc.one (α := SlV) s64) (Instr.set_accounts ({ q.in_ with accounts := sa } : Instr) s64) ?_)
          intro w hS; replace hS := hS _ (by first | exact .h0 | exact .h1 | exact .h2 | exact .h3 | exact .h4 | exact .h5 | exact .h6 | exact .h7 | exact .h8 | exact .h9 | exact .h10 | exact .h11 | exact .h12 | exact .h13 | exact .h14)
          refine ML.nil ?_
          refine thenQ_n (hK17 _ _ ?_)
          refine WC.draw 13 (.look 0 (.look 1 (.look 2 (.look 3 (.look 4 (.look 5 (.look 6 (.look 7 (.look 8 (.look 9 (.look 10 (.look 11 (.look 12 .nil))))))))))))) (by kernel_rfl) (fun _ _ _ h => h) (fun w1 hw1 => ?_)
          replace hS := hS.bel hw1
          have hS1 := hS
          have hT := St.start w1
          refine ML.look rfl rfl rfl (fun w hw => (by have hS := hS1.bel hw; exact opW.moveB rfl ⟨rfl, rfl⟩)) ?_
          refine ML.look rfl rfl rfl (fun w hw => (by have hS := hS1.bel hw; exact opW.moveB rfl ⟨rfl, rfl⟩)) ?_
          refine ML.lookG  _ 67 rfl rfl rfl rfl rfl rfl (fun hg68 w hw => (by have hS := hS1.bel hw; exact opW.moveV (v := vm) rfl ⟨rfl, rfl⟩)) ?_
          refine ML.lookG  _ 67 rfl rfl rfl rfl rfl rfl (fun hg69 w hw => (by have hS := hS1.bel hw; exact opW.moveI rfl ⟨rfl, rfl⟩)) ?_
          refine ML.lookG  _ 67 rfl rfl rfl rfl rfl rfl (fun hg70 w hw => (by have hS := hS1.bel hw; exact opW.idxV (k := .i64) (i := (k : Int)) (v := vm) (by first | exact gv_of rfl hg70 | rfl) (hm.bel hS.old) (by first | exact gv_of rfl hg70 | rfl) (by omega) ⟨rfl, rfl⟩)) ?_
          refine ML.lookG  _ 67 rfl rfl rfl rfl rfl rfl (fun hg71 w hw => (by have hS := hS1.bel hw; exact opW.loadV (by first | exact gv_of rfl hg71 | rfl) (((hm.bel hS.old).isPt hkl).ld rfl) ⟨rfl, rfl⟩)) ?_
          refine ML.lookG  _ 67 rfl rfl rfl rfl rfl rfl (fun hg72 w hw => (by have hS := hS1.bel hw; exact opW.conv (by first | exact gv_of rfl hg72 | rfl) (wrap_i64 (by omega)) ⟨rfl, rfl⟩)) ?_
          refine ML.lookG  _ 67 rfl rfl rfl rfl rfl rfl (fun hg73 w hw => (by have hS := hS1.bel hw; exact opW.fieldAddrB rfl ⟨rfl, rfl⟩)) ?_
          refine ML.lookG  _ 67 rfl rfl rfl rfl rfl rfl (fun hg74 w hw => (by have hS := hS1.bel hw; exact opW.loadV (by first | exact gv_of rfl hg74 | rfl) (hS.ld1 (by first | exact .h0 | exact .h1 | exact .h2 | exact .h3 | exact .h4 | exact .h5 | exact .h6 | exact .h7 | exact .h8 | exact .h9 | exact .h10 | exact .h11 | exact .h12 | exact .h13 | exact .h14) (LAsk.at_l q)) ⟨rfl, rfl⟩)) ?_
          refine ML.lookG  _ 67 rfl rfl rfl rfl rfl rfl (fun hg75 w hw => (by have hS := hS1.bel hw; exact opW.lenV (by first | exact gv_of rfl hg75 | rfl) ((hl.bel hS.old)) ⟨rfl, rfl⟩)) ?_
          refine ML.lookG  _ 67 rfl rfl rfl rfl rfl rfl (fun hg76 w hw => (by have hS := hS1.bel hw; exact opW.lss (by first | exact gv_of rfl hg76 | rfl) (by first | exact gv_of rfl hg76 | rfl) ⟨rfl, rfl⟩)) ?_
          refine ML.look rfl rfl rfl (fun w hw => (by have hS := hS1.bel hw; exact opW.pickAnd rfl (by first | rfl) rfl ⟨rfl, rfl⟩)) ?_
          refine ML.look rfl rfl rfl (fun w hw => (by have hS := hS1.bel hw; exact opW.assignB rfl ⟨rfl, rfl⟩)) ?_
          refine ML.nil ?_
          refine blockQ_n ?_
          refine thenQ_n (hK16 _ _ ?_)
          refine WC.region ?_
          refine WL.op rfl (opW.moveI rfl ?_)
          refine WL.op rfl (opW.add rfl rfl (wrap_i64 (by omega)) ?_)
          refine WL.op rfl (opW.assignI rfl ?_)
          refine WL.nil ?_
          refine thenQ_n ?_
          exact ⟨more.length - (k + 1), by omega, k + 1, s64, ⟨rfl, rfl, rfl, rfl, rfl, congrArg Value.bool (lacks_next hkl).symm, congrArg (Value.int .i64) (by omega), trivial⟩, (by rw [List.take_succ_eq_append_getElem hkl, ← List.append_assoc]; exact hS.sub (by repeat (first | with_reducible exact List.nil_sublist _ | with_reducible exact List.Sublist.refl _ | with_reducible refine List.Sublist.cons₂ _ ?_ | with_reducible refine List.Sublist.cons _ ?_))), by omega, rfl⟩
        ·
          have hr2 := hc2
          try simp only [decide_eq_true_eq, decide_eq_false_iff_not, Bool.and_eq_true, Bool.or_eq_true, Bool.and_eq_false_iff, Bool.or_eq_false_iff, Bool.not_eq_true', Bool.not_eq_false', Int.not_lt, Int.not_le] at hc2
          obtain rfl : k = more.length := by omega
          rw [List.take_length] at hS ⊢
          refine WC.exit ?_
          refine thenQ_e ?_
          refine thenQ_e ?_
          refine blockQ_hit ?_
          refine thenQ_n (hK12 _ _ ?_)
          refine WC.seq (fun K18 hK18 => ?_)
          refine WC.region ?_
          refine WL.op rfl (opW.fieldAddrB rfl ?_)
          refine WL.op rfl (opW.loadV rfl (hS.ld1 (by first | exact .h0 | exact .h1 | exact .h2 | exact .h3 | exact .h4 | exact .h5 | exact .h6 | exact .h7 | exact .h8 | exact .h9 | exact .h10 | exact .h11 | exact .h12 | exact .h13 | exact .h14) (LAsk.at_l q)) ?_)
          refine WL.op rfl (opW.fieldAddrB rfl ?_)
          refine WL.op rfl (opW.loadV rfl (hS.ld1 (by first | exact .h0 | exact .h1 | exact .h2 | exact .h3 | exact .h4 | exact .h5 | exact .h6 | exact .h7 | exact .h8 | exact .h9 | exact .h10 | exact .h11 | exact .h12 | exact .h13 | exact .h14) (LAsk.at_r q)) ?_)
          refine WL.op rfl (opW.loadV rfl (hS.ldA (cs := Enc.enc ({ q.in_ with accounts := sa } : Instr)) (by first | exact .h0 | exact .h1 | exact .h2 | exact .h3 | exact .h4 | exact .h5 | exact .h6 | exact .h7 | exact .h8 | exact .h9 | exact .h10 | exact .h11 | exact .h12 | exact .h13 | exact .h14) (Enc.size_eq _)) ?_)
          refine WL.op rfl (opW.call (do_ok _ _ _ ({ q.in_ with accounts := sa } : Instr) l r (ats ++ more) dt (hl.bel hS.old) (hr.bel hS.old) (hS.sl (v := sa.v) (xs := ats ++ more) (by first | exact .h0 | exact .h1 | exact .h2 | exact .h3 | exact .h4 | exact .h5 | exact .h6 | exact .h7 | exact .h8 | exact .h9 | exact .h10 | exact .h11 | exact .h12 | exact .h13 | exact .h14)) (hd.bel hS.old) (by omega) hlw) rfl ?_)
          rintro _ w ⟨v84, rfl, hn84, hw⟩
          replace hS := hS.newOwn hw hn84.1 hn84.2
          refine WL.op rfl (opW.moveV (v := .tuple #[v84, .int .u64 ((doF l r (ats ++ more) dt).2.1 : Int), .int .i64 (doF l r (ats ++ more) dt).1]) rfl ?_)
          refine WL.op rfl (opW.extract rfl rfl ?_)
          refine WL.op rfl (opW.extract rfl rfl ?_)
          refine WL.op rfl (opW.extract rfl rfl ?_)
          refine WL.op rfl (opW.assignV (v := v84) rfl ?_)
          refine WL.op rfl (opW.assignI rfl ?_)
          refine WL.op rfl (opW.assignI rfl ?_)
          refine WL.nil ?_
          refine thenQ_n (hK18 _ _ ?_)
          refine WC.seq (fun K19 hK19 => ?_)
          refine WC.seq (fun K20 hK20 => ?_)
          refine WC.region ?_
          refine WL.op rfl (opW.moveB rfl ?_)
          refine WL.op rfl (opW.moveB rfl ?_)
          cases hcs89 : (!lacks l.length more) with
          | true =>
            refine WL.gT 89 rfl rfl rfl (WL.op rfl (opW.moveI rfl ?_))
            refine WL.gT 89 rfl rfl rfl (WL.op rfl (opW.boolF (by rw [roles_more hok (by simpa using hcs89), he]; rfl) (opW.neq rfl rfl ⟨rfl, rfl⟩) ?_))
            refine WL.gT 89 rfl rfl rfl (WL.op rfl (opW.moveB rfl ?_))
            refine WL.gT 92 rfl rfl rfl (WL.op rfl (opW.moveI rfl ?_))
            refine WL.gT 92 rfl rfl rfl (WL.op rfl (opW.moveI rfl ?_))
            refine WL.gT 92 rfl rfl rfl (WL.op rfl (opW.boolF (by rw [roles_more hok (by simpa using hcs89), e2]; simp) (opW.neq rfl rfl ⟨rfl, rfl⟩) ?_))
            refine WL.gT 89 rfl rfl rfl (WL.op rfl (opW.pickT rfl rfl ?_))
            refine WL.gT 89 rfl rfl rfl (WL.op rfl (opW.moveB rfl ?_))
            refine WL.gT 97 rfl rfl rfl (WL.op rfl (opW.moveV (v := v37) rfl ?_))
            refine WL.gT 97 rfl rfl rfl (WL.op rfl (opW.moveV (v := v84) rfl ?_))
            refine WL.gT 97 rfl rfl rfl (WL.op rfl (opW.call (sameAccounts_ok _ v37 v84 out (doF l r (ats ++ more) dt).2.2 (hS.sl (v := v37) (xs := out) (by first | exact .h0 | exact .h1 | exact .h2 | exact .h3 | exact .h4 | exact .h5 | exact .h6 | exact .h7 | exact .h8 | exact .h9 | exact .h10 | exact .h11 | exact .h12 | exact .h13 | exact .h14)) (hS.sl (v := v84) (xs := (doF l r (ats ++ more) dt).2.2) (by first | exact .h0 | exact .h1 | exact .h2 | exact .h3 | exact .h4 | exact .h5 | exact .h6 | exact .h7 | exact .h8 | exact .h9 | exact .h10 | exact .h11 | exact .h12 | exact .h13 | exact .h14))) rfl ?_))
            rintro _ w ⟨rfl, hw⟩; replace hS := hS.bel hw
            rw [decide_eq_true (show out = (doF l r (ats ++ more) dt).2.2 from by rw [roles_more hok (by simpa using hcs89), e3])]
            refine WL.gT 97 rfl rfl rfl (WL.op rfl (opW.not rfl ?_))
            refine WL.gT 89 rfl rfl rfl (WL.op rfl (opW.pickT rfl rfl ?_))
            refine WL.op rfl (opW.pickT rfl rfl ?_)
            refine WL.op rfl (opW.moveB rfl ?_)
            refine WL.gT 104 rfl rfl rfl (WL.op rfl (opW.moveB rfl ?_))
            refine WL.gT 104 rfl rfl rfl (WL.op rfl (opW.not rfl ?_))
            refine WL.gT 104 rfl rfl rfl (WL.op rfl (opW.moveB rfl ?_))
            refine WL.gF 107 rfl rfl rfl rfl ?_
            refine WL.gF 107 rfl rfl rfl rfl ?_
            refine WL.gT 104 rfl rfl rfl (WL.op rfl (opW.pickT rfl rfl ?_))
            refine WL.op rfl (opW.pickT rfl rfl ?_)
            refine WL.nil ?_
            refine thenQ_n (hK20 _ _ ?_)
            refine WC.cond _ rfl (fun hc3 => ?_) (fun hc3 => ?_)
            ·
              have hr3 := hc3
              try simp only [decide_eq_true_eq, decide_eq_false_iff_not, Bool.and_eq_true, Bool.or_eq_true, Bool.and_eq_false_iff, Bool.or_eq_false_iff, Bool.not_eq_true', Bool.not_eq_false', Int.not_lt, Int.not_le] at hc3
              exact absurd hr3 (by decide)
            ·
              have hr3 := hc3
              try simp only [decide_eq_true_eq, decide_eq_false_iff_not, Bool.and_eq_true, Bool.or_eq_true, Bool.and_eq_false_iff, Bool.or_eq_false_iff, Bool.not_eq_true', Bool.not_eq_false', Int.not_lt, Int.not_le] at hc3
              refine WC.skip ?_
              refine thenQ_n (hK19 _ _ ?_)
              refine WC.seq (fun K21 hK21 => ?_)
              refine WC.seq (fun K22 hK22 => ?_)
              refine WC.draw 17 (.look 0 (.look 1 (.look 2 (.look 3 (.look 4 (.look 5 (.look 6 (.look 7 (.look 8 (.look 9 (.look 10 (.look 11 (.look 12 (.look 13 (.look 14 (.look 15 (.look 16 .nil))))))))))))))))) (by kernel_rfl) (fun _ _ _ h => h) (fun w1 hw1 => ?_)
              replace hS := hS.bel hw1
              have hS1 := hS
              have hT := St.start w1
              refine ML.look rfl rfl rfl (fun w hw => (by have hS := hS1.bel hw; exact opW.fieldAddrB rfl ⟨rfl, rfl⟩)) ?_
              refine ML.look rfl rfl rfl (fun w hw => (by have hS := hS1.bel hw; exact opW.fieldAddrB rfl ⟨rfl, rfl⟩)) ?_
              refine ML.look rfl rfl rfl (fun w hw => (by have hS := hS1.bel hw; exact opW.loadV rfl (hS.ld1 (by first | exact .h0 | exact .h1 | exact .h2 | exact .h3 | exact .h4 | exact .h5 | exact .h6 | exact .h7 | exact .h8 | exact .h9 | exact .h10 | exact .h11 | exact .h12 | exact .h13 | exact .h14) (LAsk.at_in__accounts q)) ⟨rfl, rfl⟩)) ?_
              refine ML.look rfl rfl rfl (fun w hw => (by have hS := hS1.bel hw; exact opW.lenV rfl ((ha.bel hS.old)) ⟨rfl, rfl⟩)) ?_
              refine ML.look rfl rfl rfl (fun w hw => (by have hS := hS1.bel hw; exact opW.boolF (decide_eq_false (by omega)) (opW.eql rfl rfl ⟨rfl, rfl⟩) ⟨rfl, rfl⟩)) ?_
              refine ML.look rfl rfl rfl (fun w hw => (by have hS := hS1.bel hw; exact opW.moveB rfl ⟨rfl, rfl⟩)) ?_
              refine ML.lookT 117 rfl rfl rfl rfl rfl rfl (fun w hw => (by have hS := hS1.bel hw; exact opW.fieldAddrB rfl ⟨rfl, rfl⟩)) ?_
              refine ML.lookT 117 rfl rfl rfl rfl rfl rfl (fun w hw => (by have hS := hS1.bel hw; exact opW.fieldAddrB rfl ⟨rfl, rfl⟩)) ?_
              refine ML.lookT 117 rfl rfl rfl rfl rfl rfl (fun w hw => (by have hS := hS1.bel hw; exact opW.loadV rfl (hS.ld1 (by first | exact .h0 | exact .h1 | exact .h2 | exact .h3 | exact .h4 | exact .h5 | exact .h6 | exact .h7 | exact .h8 | exact .h9 | exact .h10 | exact .h11 | exact .h12 | exact .h13 | exact .h14) (LAsk.at_in__accounts q)) ⟨rfl, rfl⟩)) ?_
              refine ML.lookT 117 rfl rfl rfl rfl rfl rfl (fun w hw => (by have hS := hS1.bel hw; exact opW.idxV rfl ((ha.bel hS.old)) rfl (by omega) ⟨rfl, rfl⟩)) ?_
              refine ML.lookT 117 rfl rfl rfl rfl rfl rfl (fun w hw => (by have hS := hS1.bel hw; exact opW.loadV rfl (((ha.bel hS.old).isPt h0l).ld rfl) ⟨rfl, rfl⟩)) ?_
              refine ML.lookT 117 rfl rfl rfl rfl rfl rfl (fun w hw => (by have hS := hS1.bel hw; exact opW.conv rfl (wrap_i64 (by have := u8_lt ats[0]; omega)) ⟨rfl, rfl⟩)) ?_
              refine ML.lookT 117 rfl rfl rfl rfl rfl rfl (fun w hw => (by have hS := hS1.bel hw; exact opW.fieldAddrB rfl ⟨rfl, rfl⟩)) ?_
              refine ML.lookT 117 rfl rfl rfl rfl rfl rfl (fun w hw => (by have hS := hS1.bel hw; exact opW.loadV rfl (hS.ld1 (by first | exact .h0 | exact .h1 | exact .h2 | exact .h3 | exact .h4 | exact .h5 | exact .h6 | exact .h7 | exact .h8 | exact .h9 | exact .h10 | exact .h11 | exact .h12 | exact .h13 | exact .h14) (LAsk.at_r q)) ⟨rfl, rfl⟩)) ?_
              refine ML.lookT 117 rfl rfl rfl rfl rfl rfl (fun w hw => (by have hS := hS1.bel hw; exact opW.lenV rfl ((hr.bel hS.old)) ⟨rfl, rfl⟩)) ?_
              refine ML.lookT 117 rfl rfl rfl rfl rfl rfl (fun w hw => (by have hS := hS1.bel hw; exact opW.boolF (decide_eq_false (by omega)) (opW.geq rfl rfl ⟨rfl, rfl⟩) ⟨rfl, rfl⟩)) ?_
              refine ML.look rfl rfl rfl (fun w hw => (by have hS := hS1.bel hw; exact opW.pickT rfl rfl ⟨rfl, rfl⟩)) ?_
              refine ML.nil ?_
              refine thenQ_n (hK22 _ _ ?_)
              refine WC.cond _ rfl (fun hc4 => ?_) (fun hc4 => ?_)
              ·
                have hr4 := hc4
                try simp only [decide_eq_true_eq, decide_eq_false_iff_not, Bool.and_eq_true, Bool.or_eq_true, Bool.and_eq_false_iff, Bool.or_eq_false_iff, Bool.not_eq_true', Bool.not_eq_false', Int.not_lt, Int.not_le] at hc4
                exact absurd hr4 (by decide)
              ·
                have hr4 := hc4
                try simp only [decide_eq_true_eq, decide_eq_false_iff_not, Bool.and_eq_true, Bool.or_eq_true, Bool.and_eq_false_iff, Bool.or_eq_false_iff, Bool.not_eq_true', Bool.not_eq_false', Int.not_lt, Int.not_le] at hc4
                refine WC.skip ?_
                refine thenQ_n (hK21 _ _ ?_)
                refine WC.seq (fun K23 hK23 => ?_)
                refine WC.region ?_
                refine WL.op rfl (opW.fieldAddrB rfl ?_)
                refine WL.op rfl (opW.fieldAddrB rfl ?_)
                refine WL.op rfl (opW.loadV rfl (hS.ld1 (by first | exact .h0 | exact .h1 | exact .h2 | exact .h3 | exact .h4 | exact .h5 | exact .h6 | exact .h7 | exact .h8 | exact .h9 | exact .h10 | exact .h11 | exact .h12 | exact .h13 | exact .h14) (LAsk.at_in__accounts q)) ?_)
                refine WL.op rfl (opW.idxV rfl ((ha.bel hS.old)) rfl (by omega) ?_)
                refine WL.op rfl (opW.loadV rfl (((ha.bel hS.old).isPt h0l).ld rfl) ?_)
                refine WL.op rfl (opW.conv rfl ((wrap_i64 (by have := u8_lt ats[0]; omega)).trans (by rw [hfa] : _ = (a : Int))) ?_)
                refine WL.op rfl (opW.assignI rfl ?_)
                refine WL.nil ?_
                refine thenQ_n (hK23 _ _ ?_)
                refine WC.seq (fun K24 hK24 => ?_)
                refine WC.region ?_
                refine WL.op rfl (opW.fieldAddrB rfl ?_)
                refine WL.op rfl (opW.loadV rfl (hS.ld1 (by first | exact .h0 | exact .h1 | exact .h2 | exact .h3 | exact .h4 | exact .h5 | exact .h6 | exact .h7 | exact .h8 | exact .h9 | exact .h10 | exact .h11 | exact .h12 | exact .h13 | exact .h14) (LAsk.at_r q)) ?_)
                refine WL.op rfl (opW.appendNil (α := Role) rfl hS rfl (hr.bel hS.old) (by omega) (by simp only [maxLen]; omega) ?_)
                intro v137 w hw hS
                refine WL.op rfl (opW.assignV (v := v137) rfl ?_)
                refine WL.nil ?_
                refine thenQ_n (hK24 _ _ ?_)
                refine WC.seq (fun K25 hK25 => ?_)
                refine WC.region ?_
                refine WL.op rfl (opW.moveV (v := v137) rfl ?_)
                refine WL.op rfl (opW.moveI rfl ?_)
                refine WL.op rfl (opW.idxV rfl (hS.sl (v := v137) (xs := r) (by first | exact .h0 | exact .h1 | exact .h2 | exact .h3 | exact .h4 | exact .h5 | exact .h6 | exact .h7 | exact .h8 | exact .h9 | exact .h10 | exact .h11 | exact .h12 | exact .h13 | exact .h14)) rfl (by omega) ?_)
                refine WL.op rfl (opW.fieldAddr rfl ((hS.sl (v := v137) (xs := r) (by first | exact .h0 | exact .h1 | exact .h2 | exact .h3 | exact .h4 | exact .h5 | exact .h6 | exact .h7 | exact .h8 | exact .h9 | exact .h10 | exact .h11 | exact .h12 | exact .h13 | exact .h14)).isP har) ?_)
                refine WL.op0 (opW.storeOwn (v := v137) (u := .bool false) (sz := 1) (xs := r) (i := a) (off := 32) (y' := (⟨r[a].key, false, r[a].writes⟩ : Role)) hS (by first | exact .h0 | exact .h1 | exact .h2 | exact .h3 | exact .h4 | exact .h5 | exact .h6 | exact .h7 | exact .h8 | exact .h9 | exact .h10 | exact .h11 | exact .h12 | exact .h13 | exact .h14) har rfl rfl rfl (by decide) (Enc.one (α := Bool) _) (Role.set_signs r[a] false) ?_)
                intro w hS; replace hS := hS _ (by first | exact .h0 | exact .h1 | exact .h2 | exact .h3 | exact .h4 | exact .h5 | exact .h6 | exact .h7 | exact .h8 | exact .h9 | exact .h10 | exact .h11 | exact .h12 | exact .h13 | exact .h14)
                refine WL.nil ?_
                refine thenQ_n (hK25 _ _ ?_)
                refine WC.seq (fun K26 hK26 => ?_)
                refine WC.region ?_
                refine WL.op rfl (opW.fieldAddrB rfl ?_)
                refine WL.op rfl (opW.loadV rfl (hS.ld1 (by first | exact .h0 | exact .h1 | exact .h2 | exact .h3 | exact .h4 | exact .h5 | exact .h6 | exact .h7 | exact .h8 | exact .h9 | exact .h10 | exact .h11 | exact .h12 | exact .h13 | exact .h14) (LAsk.at_l q)) ?_)
                refine WL.op rfl (opW.moveV (v := v137) rfl ?_)
                refine WL.op rfl (opW.fieldAddrB rfl ?_)
                refine WL.op rfl (opW.loadV rfl (hS.ldF (cs := Enc.enc q) (o := 2) (by first | exact .h0 | exact .h1 | exact .h2 | exact .h3 | exact .h4 | exact .h5 | exact .h6 | exact .h7 | exact .h8 | exact .h9 | exact .h10 | exact .h11 | exact .h12 | exact .h13 | exact .h14) (LAsk.ex_in_ q) (by rw [Enc.size_eq]; decide)) ?_)
                refine WL.op rfl (opW.call (do_ok _ _ v137 q.in_ l (r.set a (⟨r[a].key, false, r[a].writes⟩ : Role)) ats dt (hl.bel hS.old) (hS.sl (v := v137) (xs := r.set a (⟨r[a].key, false, r[a].writes⟩ : Role)) (by first | exact .h0 | exact .h1 | exact .h2 | exact .h3 | exact .h4 | exact .h5 | exact .h6 | exact .h7 | exact .h8 | exact .h9 | exact .h10 | exact .h11 | exact .h12 | exact .h13 | exact .h14)) (ha.bel hS.old) (hd.bel hS.old) (by omega) hlw) rfl ?_)
                rintro _ w ⟨v148, rfl, hn148, hw⟩
                rw [roles_14 hok] at hn148 ⊢
                replace hS := hS.bel hw
                refine WL.op rfl (opW.moveV (v := .tuple #[v148, .int .u64 (((14, 0, []) : Int × Nat × List Account).2.1 : Int), .int .i64 ((14, 0, []) : Int × Nat × List Account).1]) rfl ?_)
                refine WL.op rfl (opW.extract rfl rfl ?_)
                refine WL.op rfl (opW.extract rfl rfl ?_)
                refine WL.op rfl (opW.extract rfl rfl ?_)
                refine WL.op rfl (opW.assignV rfl ?_)
                refine WL.op rfl (opW.assignI rfl ?_)
                refine WL.op rfl (opW.assignI rfl ?_)
                refine WL.nil ?_
                refine thenQ_n (hK26 _ _ ?_)
                refine WC.seq (fun K27 hK27 => ?_)
                refine WC.region ?_
                have har1 : a < (r.set a (⟨r[a].key, false, r[a].writes⟩ : Role)).length := by rw [List.length_set]; exact har
                have hg1r : (r.set a (⟨r[a].key, false, r[a].writes⟩ : Role))[a] = (⟨r[a].key, false, r[a].writes⟩ : Role) := List.getElem_set_self har1
                refine WL.op rfl (opW.moveV (v := v137) rfl ?_)
                refine WL.op rfl (opW.moveI rfl ?_)
                refine WL.op rfl (opW.idxV rfl (hS.sl (v := v137) (xs := r.set a (⟨r[a].key, false, r[a].writes⟩ : Role)) (by first | exact .h0 | exact .h1 | exact .h2 | exact .h3 | exact .h4 | exact .h5 | exact .h6 | exact .h7 | exact .h8 | exact .h9 | exact .h10 | exact .h11 | exact .h12 | exact .h13 | exact .h14)) rfl (by omega) ?_)
                refine WL.op rfl (opW.fieldAddr rfl ((hS.sl (v := v137) (xs := r.set a (⟨r[a].key, false, r[a].writes⟩ : Role)) (by first | exact .h0 | exact .h1 | exact .h2 | exact .h3 | exact .h4 | exact .h5 | exact .h6 | exact .h7 | exact .h8 | exact .h9 | exact .h10 | exact .h11 | exact .h12 | exact .h13 | exact .h14)).isP har1) ?_)
                refine WL.op0 (opW.storeOwn (v := v137) (u := .bool true) (sz := 1) (xs := r.set a (⟨r[a].key, false, r[a].writes⟩ : Role)) (i := a) (off := 32) (y' := (⟨r[a].key, true, r[a].writes⟩ : Role)) hS (by first | exact .h0 | exact .h1 | exact .h2 | exact .h3 | exact .h4 | exact .h5 | exact .h6 | exact .h7 | exact .h8 | exact .h9 | exact .h10 | exact .h11 | exact .h12 | exact .h13 | exact .h14) har1 rfl rfl rfl (by decide) (Enc.one (α := Bool) _) (by rw [hg1r]; exact Role.set_signs (⟨r[a].key, false, r[a].writes⟩ : Role) true) ?_)
                intro w hS; replace hS := hS _ (by first | exact .h0 | exact .h1 | exact .h2 | exact .h3 | exact .h4 | exact .h5 | exact .h6 | exact .h7 | exact .h8 | exact .h9 | exact .h10 | exact .h11 | exact .h12 | exact .h13 | exact .h14)
                rw [List.set_set] at hS
                refine WL.nil ?_
                refine thenQ_n (hK27 _ _ ?_)
                refine WC.seq (fun K28 hK28 => ?_)
                refine WC.region ?_
                have har2 : a < (r.set a (⟨r[a].key, true, r[a].writes⟩ : Role)).length := by rw [List.length_set]; exact har
                have hg2r : (r.set a (⟨r[a].key, true, r[a].writes⟩ : Role))[a] = (⟨r[a].key, true, r[a].writes⟩ : Role) := List.getElem_set_self har2
                refine WL.op rfl (opW.moveV (v := v137) rfl ?_)
                refine WL.op rfl (opW.moveI rfl ?_)
                refine WL.op rfl (opW.idxV rfl (hS.sl (v := v137) (xs := r.set a (⟨r[a].key, true, r[a].writes⟩ : Role)) (by first | exact .h0 | exact .h1 | exact .h2 | exact .h3 | exact .h4 | exact .h5 | exact .h6 | exact .h7 | exact .h8 | exact .h9 | exact .h10 | exact .h11 | exact .h12 | exact .h13 | exact .h14)) rfl (by omega) ?_)
                refine WL.op rfl (opW.fieldAddr rfl ((hS.sl (v := v137) (xs := r.set a (⟨r[a].key, true, r[a].writes⟩ : Role)) (by first | exact .h0 | exact .h1 | exact .h2 | exact .h3 | exact .h4 | exact .h5 | exact .h6 | exact .h7 | exact .h8 | exact .h9 | exact .h10 | exact .h11 | exact .h12 | exact .h13 | exact .h14)).isP har2) ?_)
                refine WL.op0 (opW.storeOwn (v := v137) (u := .bool false) (sz := 1) (xs := r.set a (⟨r[a].key, true, r[a].writes⟩ : Role)) (i := a) (off := 33) (y' := (⟨r[a].key, true, false⟩ : Role)) hS (by first | exact .h0 | exact .h1 | exact .h2 | exact .h3 | exact .h4 | exact .h5 | exact .h6 | exact .h7 | exact .h8 | exact .h9 | exact .h10 | exact .h11 | exact .h12 | exact .h13 | exact .h14) har2 rfl rfl rfl (by decide) (Enc.one (α := Bool) _) (by rw [hg2r]; exact Role.set_writes (⟨r[a].key, true, r[a].writes⟩ : Role) false) ?_)
                intro w hS; replace hS := hS _ (by first | exact .h0 | exact .h1 | exact .h2 | exact .h3 | exact .h4 | exact .h5 | exact .h6 | exact .h7 | exact .h8 | exact .h9 | exact .h10 | exact .h11 | exact .h12 | exact .h13 | exact .h14)
                rw [List.set_set] at hS
                refine WL.nil ?_
                refine thenQ_n (hK28 _ _ ?_)
                refine WC.seq (fun K29 hK29 => ?_)
                refine WC.region ?_
                refine WL.op rfl (opW.fieldAddrB rfl ?_)
                refine WL.op rfl (opW.loadV rfl (hS.ld1 (by first | exact .h0 | exact .h1 | exact .h2 | exact .h3 | exact .h4 | exact .h5 | exact .h6 | exact .h7 | exact .h8 | exact .h9 | exact .h10 | exact .h11 | exact .h12 | exact .h13 | exact .h14) (LAsk.at_l q)) ?_)
                refine WL.op rfl (opW.moveV (v := v137) rfl ?_)
                refine WL.op rfl (opW.fieldAddrB rfl ?_)
                refine WL.op rfl (opW.loadV rfl (hS.ldF (cs := Enc.enc q) (o := 2) (by first | exact .h0 | exact .h1 | exact .h2 | exact .h3 | exact .h4 | exact .h5 | exact .h6 | exact .h7 | exact .h8 | exact .h9 | exact .h10 | exact .h11 | exact .h12 | exact .h13 | exact .h14) (LAsk.ex_in_ q) (by rw [Enc.size_eq]; decide)) ?_)
                refine WL.op rfl (opW.call (do_ok _ _ v137 q.in_ l (r.set a (⟨r[a].key, true, false⟩ : Role)) ats dt (hl.bel hS.old) (hS.sl (v := v137) (xs := r.set a (⟨r[a].key, true, false⟩ : Role)) (by first | exact .h0 | exact .h1 | exact .h2 | exact .h3 | exact .h4 | exact .h5 | exact .h6 | exact .h7 | exact .h8 | exact .h9 | exact .h10 | exact .h11 | exact .h12 | exact .h13 | exact .h14)) (ha.bel hS.old) (hd.bel hS.old) (by omega) hlw) rfl ?_)
                rintro _ w ⟨v166, rfl, hn166, hw⟩
                rw [roles_15 hok] at hn166 ⊢
                replace hS := hS.bel hw
                refine WL.op rfl (opW.moveV (v := .tuple #[v166, .int .u64 (((15, 0, []) : Int × Nat × List Account).2.1 : Int), .int .i64 ((15, 0, []) : Int × Nat × List Account).1]) rfl ?_)
                refine WL.op rfl (opW.extract rfl rfl ?_)
                refine WL.op rfl (opW.extract rfl rfl ?_)
                refine WL.op rfl (opW.extract rfl rfl ?_)
                refine WL.op rfl (opW.assignV rfl ?_)
                refine WL.op rfl (opW.assignI rfl ?_)
                refine WL.op rfl (opW.assignI rfl ?_)
                refine WL.nil ?_
                refine thenQ_n (hK29 _ _ ?_)
                refine WC.seq (fun K30 hK30 => ?_)
                refine WC.region ?_
                refine WL.op rfl (opW.moveI rfl ?_)
                refine WL.op rfl (opW.boolT (by rfl) (opW.eql rfl rfl ⟨rfl, rfl⟩) ?_)
                refine WL.op rfl (opW.moveB rfl ?_)
                refine WL.gT 172 rfl rfl rfl (WL.op rfl (opW.moveI rfl ?_))
                refine WL.gT 172 rfl rfl rfl (WL.op rfl (opW.boolT (by rfl) (opW.eql rfl rfl ⟨rfl, rfl⟩) ?_))
                refine WL.op rfl (opW.pickT rfl rfl ?_)
                refine WL.op rfl (opW.moveB rfl ?_)
                refine WL.gT 176 rfl rfl rfl (WL.op rfl (opW.call (lives14 _) rfl ?_))
                rintro _ w ⟨rfl, hw⟩; replace hS := hS.bel hw
                refine WL.op rfl (opW.pickT rfl rfl ?_)
                refine WL.op rfl (opW.assignB rfl ?_)
                refine WL.nil ?_
                refine thenQ_n (hK30 _ _ ?_)
                refine WC.ret ?_
                refine bodyQ_ret (.tmpB rfl .nil) ?_
                exact ⟨rfl, hS.old⟩
          | false =>
            refine WL.gF 89 rfl rfl rfl rfl ?_
            refine WL.gF 89 rfl rfl rfl rfl ?_
            refine WL.gF 89 rfl rfl rfl rfl ?_
            refine WL.gU 92 rfl rfl rfl rfl ?_
            refine WL.gU 92 rfl rfl rfl rfl ?_
            refine WL.gU 92 rfl rfl rfl rfl ?_
            refine WL.gF 89 rfl rfl rfl rfl ?_
            refine WL.gF 89 rfl rfl rfl rfl ?_
            refine WL.gU 97 rfl rfl rfl rfl ?_
            refine WL.gU 97 rfl rfl rfl rfl ?_
            refine WL.gU 97 rfl rfl rfl rfl ?_
            refine WL.gU 97 rfl rfl rfl rfl ?_
            refine WL.gF 89 rfl rfl rfl rfl ?_
            refine WL.op rfl (opW.pickT rfl rfl ?_)
            refine WL.op rfl (opW.moveB rfl ?_)
            refine WL.gT 104 rfl rfl rfl (WL.op rfl (opW.moveB rfl ?_))
            refine WL.gT 104 rfl rfl rfl (WL.op rfl (opW.not rfl ?_))
            refine WL.gT 104 rfl rfl rfl (WL.op rfl (opW.moveB rfl ?_))
            refine WL.gT 107 rfl rfl rfl (WL.op rfl (opW.moveI rfl ?_))
            refine WL.gT 107 rfl rfl rfl (WL.op rfl (opW.boolF (by rw [roles_8 hok (by simpa using hcs89)]; rfl) (opW.neq rfl rfl ⟨rfl, rfl⟩) ?_))
            refine WL.gT 104 rfl rfl rfl (WL.op rfl (opW.pickT rfl rfl ?_))
            refine WL.op rfl (opW.pickT rfl rfl ?_)
            refine WL.nil ?_
            refine thenQ_n (hK20 _ _ ?_)
            refine WC.cond _ rfl (fun hc3 => ?_) (fun hc3 => ?_)
            ·
              have hr3 := hc3
              try simp only [decide_eq_true_eq, decide_eq_false_iff_not, Bool.and_eq_true, Bool.or_eq_true, Bool.and_eq_false_iff, Bool.or_eq_false_iff, Bool.not_eq_true', Bool.not_eq_false', Int.not_lt, Int.not_le] at hc3
              exact absurd hr3 (by decide)
            ·
              have hr3 := hc3
              try simp only [decide_eq_true_eq, decide_eq_false_iff_not, Bool.and_eq_true, Bool.or_eq_true, Bool.and_eq_false_iff, Bool.or_eq_false_iff, Bool.not_eq_true', Bool.not_eq_false', Int.not_lt, Int.not_le] at hc3
              refine WC.skip ?_
              refine thenQ_n (hK19 _ _ ?_)
              refine WC.seq (fun K31 hK31 => ?_)
              refine WC.seq (fun K32 hK32 => ?_)
              refine WC.draw 17 (.look 0 (.look 1 (.look 2 (.look 3 (.look 4 (.look 5 (.look 6 (.look 7 (.look 8 (.look 9 (.look 10 (.look 11 (.look 12 (.look 13 (.look 14 (.look 15 (.look 16 .nil))))))))))))))))) (by kernel_rfl) (fun _ _ _ h => h) (fun w1 hw1 => ?_)
              replace hS := hS.bel hw1
              have hS1 := hS
              have hT := St.start w1
              refine ML.look rfl rfl rfl (fun w hw => (by have hS := hS1.bel hw; exact opW.fieldAddrB rfl ⟨rfl, rfl⟩)) ?_
              refine ML.look rfl rfl rfl (fun w hw => (by have hS := hS1.bel hw; exact opW.fieldAddrB rfl ⟨rfl, rfl⟩)) ?_
              refine ML.look rfl rfl rfl (fun w hw => (by have hS := hS1.bel hw; exact opW.loadV rfl (hS.ld1 (by first | exact .h0 | exact .h1 | exact .h2 | exact .h3 | exact .h4 | exact .h5 | exact .h6 | exact .h7 | exact .h8 | exact .h9 | exact .h10 | exact .h11 | exact .h12 | exact .h13 | exact .h14) (LAsk.at_in__accounts q)) ⟨rfl, rfl⟩)) ?_
              refine ML.look rfl rfl rfl (fun w hw => (by have hS := hS1.bel hw; exact opW.lenV rfl ((ha.bel hS.old)) ⟨rfl, rfl⟩)) ?_
              refine ML.look rfl rfl rfl (fun w hw => (by have hS := hS1.bel hw; exact opW.boolF (decide_eq_false (by omega)) (opW.eql rfl rfl ⟨rfl, rfl⟩) ⟨rfl, rfl⟩)) ?_
              refine ML.look rfl rfl rfl (fun w hw => (by have hS := hS1.bel hw; exact opW.moveB rfl ⟨rfl, rfl⟩)) ?_
              refine ML.lookT 117 rfl rfl rfl rfl rfl rfl (fun w hw => (by have hS := hS1.bel hw; exact opW.fieldAddrB rfl ⟨rfl, rfl⟩)) ?_
              refine ML.lookT 117 rfl rfl rfl rfl rfl rfl (fun w hw => (by have hS := hS1.bel hw; exact opW.fieldAddrB rfl ⟨rfl, rfl⟩)) ?_
              refine ML.lookT 117 rfl rfl rfl rfl rfl rfl (fun w hw => (by have hS := hS1.bel hw; exact opW.loadV rfl (hS.ld1 (by first | exact .h0 | exact .h1 | exact .h2 | exact .h3 | exact .h4 | exact .h5 | exact .h6 | exact .h7 | exact .h8 | exact .h9 | exact .h10 | exact .h11 | exact .h12 | exact .h13 | exact .h14) (LAsk.at_in__accounts q)) ⟨rfl, rfl⟩)) ?_
              refine ML.lookT 117 rfl rfl rfl rfl rfl rfl (fun w hw => (by have hS := hS1.bel hw; exact opW.idxV rfl ((ha.bel hS.old)) rfl (by omega) ⟨rfl, rfl⟩)) ?_
              refine ML.lookT 117 rfl rfl rfl rfl rfl rfl (fun w hw => (by have hS := hS1.bel hw; exact opW.loadV rfl (((ha.bel hS.old).isPt h0l).ld rfl) ⟨rfl, rfl⟩)) ?_
              refine ML.lookT 117 rfl rfl rfl rfl rfl rfl (fun w hw => (by have hS := hS1.bel hw; exact opW.conv rfl (wrap_i64 (by have := u8_lt ats[0]; omega)) ⟨rfl, rfl⟩)) ?_
              refine ML.lookT 117 rfl rfl rfl rfl rfl rfl (fun w hw => (by have hS := hS1.bel hw; exact opW.fieldAddrB rfl ⟨rfl, rfl⟩)) ?_
              refine ML.lookT 117 rfl rfl rfl rfl rfl rfl (fun w hw => (by have hS := hS1.bel hw; exact opW.loadV rfl (hS.ld1 (by first | exact .h0 | exact .h1 | exact .h2 | exact .h3 | exact .h4 | exact .h5 | exact .h6 | exact .h7 | exact .h8 | exact .h9 | exact .h10 | exact .h11 | exact .h12 | exact .h13 | exact .h14) (LAsk.at_r q)) ⟨rfl, rfl⟩)) ?_
              refine ML.lookT 117 rfl rfl rfl rfl rfl rfl (fun w hw => (by have hS := hS1.bel hw; exact opW.lenV rfl ((hr.bel hS.old)) ⟨rfl, rfl⟩)) ?_
              refine ML.lookT 117 rfl rfl rfl rfl rfl rfl (fun w hw => (by have hS := hS1.bel hw; exact opW.boolF (decide_eq_false (by omega)) (opW.geq rfl rfl ⟨rfl, rfl⟩) ⟨rfl, rfl⟩)) ?_
              refine ML.look rfl rfl rfl (fun w hw => (by have hS := hS1.bel hw; exact opW.pickT rfl rfl ⟨rfl, rfl⟩)) ?_
              refine ML.nil ?_
              refine thenQ_n (hK32 _ _ ?_)
              refine WC.cond _ rfl (fun hc4 => ?_) (fun hc4 => ?_)
              ·
                have hr4 := hc4
                try simp only [decide_eq_true_eq, decide_eq_false_iff_not, Bool.and_eq_true, Bool.or_eq_true, Bool.and_eq_false_iff, Bool.or_eq_false_iff, Bool.not_eq_true', Bool.not_eq_false', Int.not_lt, Int.not_le] at hc4
                exact absurd hr4 (by decide)
              ·
                have hr4 := hc4
                try simp only [decide_eq_true_eq, decide_eq_false_iff_not, Bool.and_eq_true, Bool.or_eq_true, Bool.and_eq_false_iff, Bool.or_eq_false_iff, Bool.not_eq_true', Bool.not_eq_false', Int.not_lt, Int.not_le] at hc4
                refine WC.skip ?_
                refine thenQ_n (hK31 _ _ ?_)
                refine WC.seq (fun K33 hK33 => ?_)
                refine WC.region ?_
                refine WL.op rfl (opW.fieldAddrB rfl ?_)
                refine WL.op rfl (opW.fieldAddrB rfl ?_)
                refine WL.op rfl (opW.loadV rfl (hS.ld1 (by first | exact .h0 | exact .h1 | exact .h2 | exact .h3 | exact .h4 | exact .h5 | exact .h6 | exact .h7 | exact .h8 | exact .h9 | exact .h10 | exact .h11 | exact .h12 | exact .h13 | exact .h14) (LAsk.at_in__accounts q)) ?_)
                refine WL.op rfl (opW.idxV rfl ((ha.bel hS.old)) rfl (by omega) ?_)
                refine WL.op rfl (opW.loadV rfl (((ha.bel hS.old).isPt h0l).ld rfl) ?_)
                refine WL.op rfl (opW.conv rfl ((wrap_i64 (by have := u8_lt ats[0]; omega)).trans (by rw [hfa] : _ = (a : Int))) ?_)
                refine WL.op rfl (opW.assignI rfl ?_)
                refine WL.nil ?_
                refine thenQ_n (hK33 _ _ ?_)
                refine WC.seq (fun K34 hK34 => ?_)
                refine WC.region ?_
                refine WL.op rfl (opW.fieldAddrB rfl ?_)
                refine WL.op rfl (opW.loadV rfl (hS.ld1 (by first | exact .h0 | exact .h1 | exact .h2 | exact .h3 | exact .h4 | exact .h5 | exact .h6 | exact .h7 | exact .h8 | exact .h9 | exact .h10 | exact .h11 | exact .h12 | exact .h13 | exact .h14) (LAsk.at_r q)) ?_)
                refine WL.op rfl (opW.appendNil (α := Role) rfl hS rfl (hr.bel hS.old) (by omega) (by simp only [maxLen]; omega) ?_)
                intro v137 w hw hS
                refine WL.op rfl (opW.assignV (v := v137) rfl ?_)
                refine WL.nil ?_
                refine thenQ_n (hK34 _ _ ?_)
                refine WC.seq (fun K35 hK35 => ?_)
                refine WC.region ?_
                refine WL.op rfl (opW.moveV (v := v137) rfl ?_)
                refine WL.op rfl (opW.moveI rfl ?_)
                refine WL.op rfl (opW.idxV rfl (hS.sl (v := v137) (xs := r) (by first | exact .h0 | exact .h1 | exact .h2 | exact .h3 | exact .h4 | exact .h5 | exact .h6 | exact .h7 | exact .h8 | exact .h9 | exact .h10 | exact .h11 | exact .h12 | exact .h13 | exact .h14)) rfl (by omega) ?_)
                refine WL.op rfl (opW.fieldAddr rfl ((hS.sl (v := v137) (xs := r) (by first | exact .h0 | exact .h1 | exact .h2 | exact .h3 | exact .h4 | exact .h5 | exact .h6 | exact .h7 | exact .h8 | exact .h9 | exact .h10 | exact .h11 | exact .h12 | exact .h13 | exact .h14)).isP har) ?_)
                refine WL.op0 (opW.storeOwn (v := v137) (u := .bool false) (sz := 1) (xs := r) (i := a) (off := 32) (y' := (⟨r[a].key, false, r[a].writes⟩ : Role)) hS (by first | exact .h0 | exact .h1 | exact .h2 | exact .h3 | exact .h4 | exact .h5 | exact .h6 | exact .h7 | exact .h8 | exact .h9 | exact .h10 | exact .h11 | exact .h12 | exact .h13 | exact .h14) har rfl rfl rfl (by decide) (Enc.one (α := Bool) _) (Role.set_signs r[a] false) ?_)
                intro w hS; replace hS := hS _ (by first | exact .h0 | exact .h1 | exact .h2 | exact .h3 | exact .h4 | exact .h5 | exact .h6 | exact .h7 | exact .h8 | exact .h9 | exact .h10 | exact .h11 | exact .h12 | exact .h13 | exact .h14)
                refine WL.nil ?_
                refine thenQ_n (hK35 _ _ ?_)
                refine WC.seq (fun K36 hK36 => ?_)
                refine WC.region ?_
                refine WL.op rfl (opW.fieldAddrB rfl ?_)
                refine WL.op rfl (opW.loadV rfl (hS.ld1 (by first | exact .h0 | exact .h1 | exact .h2 | exact .h3 | exact .h4 | exact .h5 | exact .h6 | exact .h7 | exact .h8 | exact .h9 | exact .h10 | exact .h11 | exact .h12 | exact .h13 | exact .h14) (LAsk.at_l q)) ?_)
                refine WL.op rfl (opW.moveV (v := v137) rfl ?_)
                refine WL.op rfl (opW.fieldAddrB rfl ?_)
                refine WL.op rfl (opW.loadV rfl (hS.ldF (cs := Enc.enc q) (o := 2) (by first | exact .h0 | exact .h1 | exact .h2 | exact .h3 | exact .h4 | exact .h5 | exact .h6 | exact .h7 | exact .h8 | exact .h9 | exact .h10 | exact .h11 | exact .h12 | exact .h13 | exact .h14) (LAsk.ex_in_ q) (by rw [Enc.size_eq]; decide)) ?_)
                refine WL.op rfl (opW.call (do_ok _ _ v137 q.in_ l (r.set a (⟨r[a].key, false, r[a].writes⟩ : Role)) ats dt (hl.bel hS.old) (hS.sl (v := v137) (xs := r.set a (⟨r[a].key, false, r[a].writes⟩ : Role)) (by first | exact .h0 | exact .h1 | exact .h2 | exact .h3 | exact .h4 | exact .h5 | exact .h6 | exact .h7 | exact .h8 | exact .h9 | exact .h10 | exact .h11 | exact .h12 | exact .h13 | exact .h14)) (ha.bel hS.old) (hd.bel hS.old) (by omega) hlw) rfl ?_)
                rintro _ w ⟨v148, rfl, hn148, hw⟩
                rw [roles_14 hok] at hn148 ⊢
                replace hS := hS.bel hw
                refine WL.op rfl (opW.moveV (v := .tuple #[v148, .int .u64 (((14, 0, []) : Int × Nat × List Account).2.1 : Int), .int .i64 ((14, 0, []) : Int × Nat × List Account).1]) rfl ?_)
                refine WL.op rfl (opW.extract rfl rfl ?_)
                refine WL.op rfl (opW.extract rfl rfl ?_)
                refine WL.op rfl (opW.extract rfl rfl ?_)
                refine WL.op rfl (opW.assignV rfl ?_)
                refine WL.op rfl (opW.assignI rfl ?_)
                refine WL.op rfl (opW.assignI rfl ?_)
                refine WL.nil ?_
                refine thenQ_n (hK36 _ _ ?_)
                refine WC.seq (fun K37 hK37 => ?_)
                refine WC.region ?_
                have har1 : a < (r.set a (⟨r[a].key, false, r[a].writes⟩ : Role)).length := by rw [List.length_set]; exact har
                have hg1r : (r.set a (⟨r[a].key, false, r[a].writes⟩ : Role))[a] = (⟨r[a].key, false, r[a].writes⟩ : Role) := List.getElem_set_self har1
                refine WL.op rfl (opW.moveV (v := v137) rfl ?_)
                refine WL.op rfl (opW.moveI rfl ?_)
                refine WL.op rfl (opW.idxV rfl (hS.sl (v := v137) (xs := r.set a (⟨r[a].key, false, r[a].writes⟩ : Role)) (by first | exact .h0 | exact .h1 | exact .h2 | exact .h3 | exact .h4 | exact .h5 | exact .h6 | exact .h7 | exact .h8 | exact .h9 | exact .h10 | exact .h11 | exact .h12 | exact .h13 | exact .h14)) rfl (by omega) ?_)
                refine WL.op rfl (opW.fieldAddr rfl ((hS.sl (v := v137) (xs := r.set a (⟨r[a].key, false, r[a].writes⟩ : Role)) (by first | exact .h0 | exact .h1 | exact .h2 | exact .h3 | exact .h4 | exact .h5 | exact .h6 | exact .h7 | exact .h8 | exact .h9 | exact .h10 | exact .h11 | exact .h12 | exact .h13 | exact .h14)).isP har1) ?_)
                refine WL.op0 (opW.storeOwn (v := v137) (u := .bool true) (sz := 1) (xs := r.set a (⟨r[a].key, false, r[a].writes⟩ : Role)) (i := a) (off := 32) (y' := (⟨r[a].key, true, r[a].writes⟩ : Role)) hS (by first | exact .h0 | exact .h1 | exact .h2 | exact .h3 | exact .h4 | exact .h5 | exact .h6 | exact .h7 | exact .h8 | exact .h9 | exact .h10 | exact .h11 | exact .h12 | exact .h13 | exact .h14) har1 rfl rfl rfl (by decide) (Enc.one (α := Bool) _) (by rw [hg1r]; exact Role.set_signs (⟨r[a].key, false, r[a].writes⟩ : Role) true) ?_)
                intro w hS; replace hS := hS _ (by first | exact .h0 | exact .h1 | exact .h2 | exact .h3 | exact .h4 | exact .h5 | exact .h6 | exact .h7 | exact .h8 | exact .h9 | exact .h10 | exact .h11 | exact .h12 | exact .h13 | exact .h14)
                rw [List.set_set] at hS
                refine WL.nil ?_
                refine thenQ_n (hK37 _ _ ?_)
                refine WC.seq (fun K38 hK38 => ?_)
                refine WC.region ?_
                have har2 : a < (r.set a (⟨r[a].key, true, r[a].writes⟩ : Role)).length := by rw [List.length_set]; exact har
                have hg2r : (r.set a (⟨r[a].key, true, r[a].writes⟩ : Role))[a] = (⟨r[a].key, true, r[a].writes⟩ : Role) := List.getElem_set_self har2
                refine WL.op rfl (opW.moveV (v := v137) rfl ?_)
                refine WL.op rfl (opW.moveI rfl ?_)
                refine WL.op rfl (opW.idxV rfl (hS.sl (v := v137) (xs := r.set a (⟨r[a].key, true, r[a].writes⟩ : Role)) (by first | exact .h0 | exact .h1 | exact .h2 | exact .h3 | exact .h4 | exact .h5 | exact .h6 | exact .h7 | exact .h8 | exact .h9 | exact .h10 | exact .h11 | exact .h12 | exact .h13 | exact .h14)) rfl (by omega) ?_)
                refine WL.op rfl (opW.fieldAddr rfl ((hS.sl (v := v137) (xs := r.set a (⟨r[a].key, true, r[a].writes⟩ : Role)) (by first | exact .h0 | exact .h1 | exact .h2 | exact .h3 | exact .h4 | exact .h5 | exact .h6 | exact .h7 | exact .h8 | exact .h9 | exact .h10 | exact .h11 | exact .h12 | exact .h13 | exact .h14)).isP har2) ?_)
                refine WL.op0 (opW.storeOwn (v := v137) (u := .bool false) (sz := 1) (xs := r.set a (⟨r[a].key, true, r[a].writes⟩ : Role)) (i := a) (off := 33) (y' := (⟨r[a].key, true, false⟩ : Role)) hS (by first | exact .h0 | exact .h1 | exact .h2 | exact .h3 | exact .h4 | exact .h5 | exact .h6 | exact .h7 | exact .h8 | exact .h9 | exact .h10 | exact .h11 | exact .h12 | exact .h13 | exact .h14) har2 rfl rfl rfl (by decide) (Enc.one (α := Bool) _) (by rw [hg2r]; exact Role.set_writes (⟨r[a].key, true, r[a].writes⟩ : Role) false) ?_)
                intro w hS; replace hS := hS _ (by first | exact .h0 | exact .h1 | exact .h2 | exact .h3 | exact .h4 | exact .h5 | exact .h6 | exact .h7 | exact .h8 | exact .h9 | exact .h10 | exact .h11 | exact .h12 | exact .h13 | exact .h14)
                rw [List.set_set] at hS
                refine WL.nil ?_
                refine thenQ_n (hK38 _ _ ?_)
                refine WC.seq (fun K39 hK39 => ?_)
                refine WC.region ?_
                refine WL.op rfl (opW.fieldAddrB rfl ?_)
                refine WL.op rfl (opW.loadV rfl (hS.ld1 (by first | exact .h0 | exact .h1 | exact .h2 | exact .h3 | exact .h4 | exact .h5 | exact .h6 | exact .h7 | exact .h8 | exact .h9 | exact .h10 | exact .h11 | exact .h12 | exact .h13 | exact .h14) (LAsk.at_l q)) ?_)
                refine WL.op rfl (opW.moveV (v := v137) rfl ?_)
                refine WL.op rfl (opW.fieldAddrB rfl ?_)
                refine WL.op rfl (opW.loadV rfl (hS.ldF (cs := Enc.enc q) (o := 2) (by first | exact .h0 | exact .h1 | exact .h2 | exact .h3 | exact .h4 | exact .h5 | exact .h6 | exact .h7 | exact .h8 | exact .h9 | exact .h10 | exact .h11 | exact .h12 | exact .h13 | exact .h14) (LAsk.ex_in_ q) (by rw [Enc.size_eq]; decide)) ?_)
                refine WL.op rfl (opW.call (do_ok _ _ v137 q.in_ l (r.set a (⟨r[a].key, true, false⟩ : Role)) ats dt (hl.bel hS.old) (hS.sl (v := v137) (xs := r.set a (⟨r[a].key, true, false⟩ : Role)) (by first | exact .h0 | exact .h1 | exact .h2 | exact .h3 | exact .h4 | exact .h5 | exact .h6 | exact .h7 | exact .h8 | exact .h9 | exact .h10 | exact .h11 | exact .h12 | exact .h13 | exact .h14)) (ha.bel hS.old) (hd.bel hS.old) (by omega) hlw) rfl ?_)
                rintro _ w ⟨v166, rfl, hn166, hw⟩
                rw [roles_15 hok] at hn166 ⊢
                replace hS := hS.bel hw
                refine WL.op rfl (opW.moveV (v := .tuple #[v166, .int .u64 (((15, 0, []) : Int × Nat × List Account).2.1 : Int), .int .i64 ((15, 0, []) : Int × Nat × List Account).1]) rfl ?_)
                refine WL.op rfl (opW.extract rfl rfl ?_)
                refine WL.op rfl (opW.extract rfl rfl ?_)
                refine WL.op rfl (opW.extract rfl rfl ?_)
                refine WL.op rfl (opW.assignV rfl ?_)
                refine WL.op rfl (opW.assignI rfl ?_)
                refine WL.op rfl (opW.assignI rfl ?_)
                refine WL.nil ?_
                refine thenQ_n (hK39 _ _ ?_)
                refine WC.seq (fun K40 hK40 => ?_)
                refine WC.region ?_
                refine WL.op rfl (opW.moveI rfl ?_)
                refine WL.op rfl (opW.boolT (by rfl) (opW.eql rfl rfl ⟨rfl, rfl⟩) ?_)
                refine WL.op rfl (opW.moveB rfl ?_)
                refine WL.gT 172 rfl rfl rfl (WL.op rfl (opW.moveI rfl ?_))
                refine WL.gT 172 rfl rfl rfl (WL.op rfl (opW.boolT (by rfl) (opW.eql rfl rfl ⟨rfl, rfl⟩) ?_))
                refine WL.op rfl (opW.pickT rfl rfl ?_)
                refine WL.op rfl (opW.moveB rfl ?_)
                refine WL.gT 176 rfl rfl rfl (WL.op rfl (opW.call (lives14 _) rfl ?_))
                rintro _ w ⟨rfl, hw⟩; replace hS := hS.bel hw
                refine WL.op rfl (opW.pickT rfl rfl ?_)
                refine WL.op rfl (opW.assignB rfl ?_)
                refine WL.nil ?_
                refine thenQ_n (hK40 _ _ ?_)
                refine WC.ret ?_
                refine bodyQ_ret (.tmpB rfl .nil) ?_
                exact ⟨rfl, hS.old⟩

end Go.Fer
