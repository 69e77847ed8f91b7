/- TablesPlay -/
import Derived.Test.YtpaeddbfidmjbaaJ
import Derived.Test.YtpaeddbfidmjbaaL
set_option linter.all false
namespace Go.Fer
open Go Go.Proofs Go.RowKit

def PlayI (d : TbD) (m : RtD) (o : TbD) (n : RtD) : Prop := TbOk d ∧ RtOk m.l ∧ SubM o d ∧ (∀ x ∈ n.l, x ∈ m.l) ∧ RelF d m ∧ RelF o n
theorem PlayI.okn {d : TbD} {m : RtD} {o : TbD} {n : RtD} (h : PlayI d m o n) : RtOk n.l := fun x hx => h.2.1 x (h.2.2.2.1 x hx)
theorem PlayI.put {d d2 : TbD} {m m2 : RtD} {o : TbD} {n : RtD} {t : Key} {ks : List Key} (h : PlayI d m o n) (hp1 : putC d t ks = 0 → ∀ k, d2.find k = if k = t then some ks else d.find k) (hp0 : putC d t ks ≠ 0 → d2 = d) (hsub : SubM d d2) (hok2 : TbOk d2)
    (hr1 : rputC m.l t ks = 0 → ∃ a : RTab, m2.l = m.l ++ [(a, ks)] ∧ a.key = t) (hr0 : rputC m.l t ks ≠ 0 → m2 = m) (hrok2 : RtOk m2.l) : PlayI d2 m2 o n := by
  obtain ⟨h1, h2, h3, h4, h5, h6⟩ := h
  have hc := h5.put t ks
  by_cases hz : putC d t ks = 0
  · obtain ⟨a, ha, hk⟩ := hr1 (hc.trans hz)
    exact ⟨hok2, hrok2, h3.trans hsub, fun x hx => by rw [ha]; exact List.mem_append_left _ (h4 x hx), h5.step hz (hp1 hz) ha hk, h6⟩
  · rw [hr0 (by rw [hc]; exact hz), hp0 hz]
    exact ⟨h1, h2, h3, h4, h5, h6⟩
theorem find_same {f g : Option (List Key)} {e e' : Int} {l l' : List Key} (hfg : f = g) (h : (f = some l ∧ e = 0) ∨ (f = none ∧ e = 11 ∧ l = [])) (h' : (g = some l' ∧ e' = 0) ∨ (g = none ∧ e' = 11 ∧ l' = [])) : e' = e ∧ l' = l := by
  subst hfg
  rcases h with ⟨h1, rfl⟩ | ⟨h1, rfl, rfl⟩
  · rcases h' with ⟨h2, rfl⟩ | ⟨h2, _⟩
    · rw [h1] at h2; cases h2; exact ⟨rfl, rfl⟩
    · rw [h1] at h2; cases h2
  · rcases h' with ⟨h2, _⟩ | ⟨h2, rfl, rfl⟩
    · rw [h1] at h2; cases h2
    · exact ⟨rfl, rfl⟩
theorem greatB_all {n : Nat} {ac : Nat → AcM} (h : greatB n ac = false) : n ≤ 80 ∧ ∀ i, i < n → actB (ac i) = false := by
  refine ⟨?_, fun i hi => ?_⟩
  · unfold greatB at h
    rw [Bool.or_eq_false_iff] at h
    have := of_decide_eq_false h.1
    omega
  · cases hb : actB (ac i) with
    | false => rfl
    | true => rw [greatB_hit hi hb] at h; cases h

set_option maxRecDepth 20000 in
set_option maxHeartbeats 4000000 in
theorem play_law (w0 : World) (v : Value) (xs : List Act) (ac : Nat → AcM) (hx : SlR w0 v xs) (hac : ∀ i (hi : i < xs.length), AcIs w0 (xs[i]'hi) (ac i)) : Ret Try.prog 6 #[v] w0 (fun r w' => r = .bool true ∧ Bel w0 w') := by
  refine Ret.enter (args := [v]) Try.func6 rfl Try.ntmps6 Try.results6 rfl ?_
  have hS := St.start w0
  refine WC.seq (fun K1 hK1 => ?_)
  refine WC.region ?_
  refine WL.op rfl (opW.assignB rfl ?_)
  refine WL.nil ?_
  refine thenQ_n (hK1 _ _ ?_)
  refine WC.seq (fun K2 hK2 => ?_)
  refine WC.seq (fun K3 hK3 => ?_)
  refine WC.region ?_
  refine WL.op rfl (opW.moveV (v := v) rfl ?_)
  refine WL.op rfl (opW.call (great_ok _ v xs ac (hx.bel hS.old) (fun i hi => (hac i hi).bel hS.old)) rfl ?_)
  rintro _ w ⟨rfl, hw⟩; replace hS := hS.bel hw
  refine WL.nil ?_
  refine thenQ_n (hK3 _ _ ?_)
  refine WC.cond _ rfl (fun hc0 => ?_) (fun hc0 => ?_)
  ·
    have hr0 := hc0
    try simp only [decide_eq_true_eq, decide_eq_false_iff_not, Bool.and_eq_true, Bool.or_eq_true, Bool.and_eq_false_iff, Bool.or_eq_false_iff, Bool.not_eq_true', Bool.not_eq_false', Int.not_lt, Int.not_le] at hc0
    refine WC.seq (fun K4 hK4 => ?_)
    refine WC.region ?_
    refine WL.op rfl (opW.call (lives06 _) rfl ?_)
    rintro _ w ⟨rfl, hw⟩; replace hS := hS.bel hw
    refine WL.op rfl (opW.assignB rfl ?_)
    refine WL.nil ?_
    refine thenQ_n (hK4 _ _ ?_)
    refine WC.ret ?_
    refine thenQ_r ?_
    refine bodyQ_ret (.tmpB rfl .nil) ?_
    exact ⟨rfl, hS.old⟩
  ·
    have hr0 := hc0
    try simp only [decide_eq_true_eq, decide_eq_false_iff_not, Bool.and_eq_true, Bool.or_eq_true, Bool.and_eq_false_iff, Bool.or_eq_false_iff, Bool.not_eq_true', Bool.not_eq_false', Int.not_lt, Int.not_le] at hc0
    obtain ⟨hn80, hall⟩ := greatB_all hr0
    have hle := hx.le
    simp only [maxLen] at hle
    refine WC.skip ?_
    refine thenQ_n (hK2 _ _ ?_)
    refine WC.seq (fun K5 hK5 => ?_)
    refine WC.region ?_
    refine WL.op rfl (opW.call (new_ok _) rfl ?_)
    rintro _ w ⟨p0, d0, rfl, hf0, hn0, hw⟩
    replace hS := hS.newE hw hn0
    refine WL.op rfl (opW.assignV (v := .pointer (some ⟨p0, 0, none⟩)) rfl ?_)
    refine WL.nil ?_
    refine thenQ_n (hK5 _ _ ?_)
    refine WC.seq (fun K6 hK6 => ?_)
    refine WC.region ?_
    refine WL.op rfl (opW.buildE (r := ((RReg.mk ⟨none, 0, 0⟩) : RReg)) (ps := RReg.parts ((RReg.mk ⟨none, 0, 0⟩) : RReg)) (RReg.enc_eq _) (by first | rfl | (simp only [kK, markK, enc_vset, enc_vz, Lookup.enc_eq, Lookup.parts, Act.enc_eq, Act.parts, TbS.enc_eq, TbS.parts, RTab.enc_eq, RTab.parts, RReg.enc_eq, RReg.parts, ShKey.enc_eq, ShKey.parts, BookS.enc_eq, BookS.parts]; rfl)) (by (repeat' (first | exact trivial | refine And.intro ?_ ?_)) <;> first | rfl | exact Enc.size_eq _ | (simp; done)) ?_)
    refine WL.op rfl (opW.boxA hS (c := (Enc.enc (RReg.mk ⟨none, 0, 0⟩))) rfl ?_)
    intro b29 w _ hS
    refine WL.op rfl (opW.assignV (v := .pointer (some ⟨b29, 0, none⟩)) rfl ?_)
    replace hS := St.rtClose (p := b29) ⟨⟨none, 0, 0⟩, []⟩ ((hS.nilOwn (α := RTab) 68).swap)
    refine WL.nil ?_
    refine thenQ_n (hK6 _ _ ?_)
    refine WC.seq (fun K7 hK7 => ?_)
    refine WC.region ?_
    refine WL.op rfl (opW.moveV (v := .pointer (some ⟨p0, 0, none⟩)) rfl ?_)
    refine WL.op rfl (opW.call (copy_ok _ p0 d0 (hS.tbAt (by first | exact .h0 | exact .h1 | exact .h2 | exact .h3 | exact .h4 | exact .h5 | exact .h6 | exact .h7 | exact .h8 | exact .h9 | exact .h10 | exact .h11 | exact .h12 | exact .h13 | exact .h14))) rfl ?_)
    rintro _ w ⟨p20, r20, rfl, hn31, hw⟩
    replace hS := hS.newE hw hn31
    refine WL.op rfl (opW.assignV (v := .pointer (some ⟨p20, 0, none⟩)) rfl ?_)
    refine WL.nil ?_
    refine thenQ_n (hK7 _ _ ?_)
    refine WC.seq (fun K8 hK8 => ?_)
    refine WC.region ?_
    refine WL.op rfl (opW.buildE (r := ((RReg.mk ⟨none, 0, 0⟩) : RReg)) (ps := RReg.parts ((RReg.mk ⟨none, 0, 0⟩) : RReg)) (RReg.enc_eq _) (by first | rfl | (simp only [kK, markK, enc_vset, enc_vz, Lookup.enc_eq, Lookup.parts, Act.enc_eq, Act.parts, TbS.enc_eq, TbS.parts, RTab.enc_eq, RTab.parts, RReg.enc_eq, RReg.parts, ShKey.enc_eq, ShKey.parts, BookS.enc_eq, BookS.parts]; rfl)) (by (repeat' (first | exact trivial | refine And.intro ?_ ?_)) <;> first | rfl | exact Enc.size_eq _ | (simp; done)) ?_)
    refine WL.op rfl (opW.boxA hS (c := (Enc.enc (RReg.mk ⟨none, 0, 0⟩))) rfl ?_)
    intro b33 w _ hS
    refine WL.op rfl (opW.assignV (v := .pointer (some ⟨b33, 0, none⟩)) rfl ?_)
    replace hS := St.rcClose (p := b33) ⟨⟨none, 0, 0⟩, []⟩ ((hS.nilOwn (α := RTab) 68).swap)
    have hI0 : PlayI d0 ⟨⟨none, 0, 0⟩, []⟩ ⟨r20, d0.kvs⟩ ⟨⟨none, 0, 0⟩, []⟩ := ⟨fun k l h => (by rw [hf0] at h; cases h), fun x hx => (by cases hx), SubM.refl ⟨r20, d0.kvs⟩, fun x hx => hx, fun k => hf0 k, fun k => hf0 k⟩
    refine WL.nil ?_
    refine thenQ_n (hK8 _ _ ?_)
    refine WC.seq (fun K9 hK9 => ?_)
    refine WC.seq (fun K10 hK10 => ?_)
    refine WC.region ?_
    refine WL.op rfl (opW.assignI rfl ?_)
    refine WL.nil ?_
    refine thenQ_n (hK10 _ _ ?_)
    refine WC.block ?_
    refine WC.loop (fun mm f w => ∃ (k p q p2 q2 : Nat) (d : TbD) (m : RtD) (o : TbD) (n : RtD), Fits [(0, v), (3, .pointer (some ⟨p, 0, none⟩)), (4, .pointer (some ⟨q, 0, none⟩)), (5, .pointer (some ⟨p2, 0, none⟩)), (6, .pointer (some ⟨q2, 0, none⟩)), (7, .int .i64 (k : Int))] f ∧ St w0 [tcE p2 o, rcE q2 n, tbE p d, rtE q m] w ∧ PlayI d m o n ∧ m.l.length ≤ k ∧ k ≤ xs.length ∧ mm = xs.length - k) (xs.length) ?_ ?_
    ·
      exact ⟨0, p0, b29, p20, b33, d0, ⟨⟨none, 0, 0⟩, []⟩, ⟨r20, d0.kvs⟩, ⟨⟨none, 0, 0⟩, []⟩, ⟨rfl, rfl, rfl, rfl, rfl, rfl, trivial⟩, (((hS.pick (e := rtE b29 ⟨⟨none, 0, 0⟩, []⟩) (by first | exact .h0 | exact .h1 | exact .h2 | exact .h3 | exact .h4 | exact .h5 | exact .h6 | exact .h7 | exact .h8 | exact .h9 | exact .h10 | exact .h11 | exact .h12 | exact .h13 | exact .h14)).pick (e := tbE p0 d0) (by first | exact .h0 | exact .h1 | exact .h2 | exact .h3 | exact .h4 | exact .h5 | exact .h6 | exact .h7 | exact .h8 | exact .h9 | exact .h10 | exact .h11 | exact .h12 | exact .h13 | exact .h14)).pick (e := rcE b33 ⟨⟨none, 0, 0⟩, []⟩) (by first | exact .h0 | exact .h1 | exact .h2 | exact .h3 | exact .h4 | exact .h5 | exact .h6 | exact .h7 | exact .h8 | exact .h9 | exact .h10 | exact .h11 | exact .h12 | exact .h13 | exact .h14)).pick (e := tcE p20 ⟨r20, d0.kvs⟩) (by first | exact .h0 | exact .h1 | exact .h2 | exact .h3 | exact .h4 | exact .h5 | exact .h6 | exact .h7 | exact .h8 | exact .h9 | exact .h10 | exact .h11 | exact .h12 | exact .h13 | exact .h14), hI0, Nat.le_refl _, Nat.zero_le _, rfl⟩
    ·
      rintro mm f w ⟨k, p, q, p2, q2, d, m, o, n, hfit, hS, hI, hmk, hk0, hm⟩
      refine WC.fits _ hfit (fun g => ?_)
      clear hfit
      refine WC.seq (fun K11 hK11 => ?_)
      refine WC.seq (fun K12 hK12 => ?_)
      refine WC.region ?_
      refine WL.op rfl (opW.moveI rfl ?_)
      refine WL.op rfl (opW.moveV (v := v) rfl ?_)
      refine WL.op rfl (opW.lenV rfl ((hx.bel hS.old)) ?_)
      refine WL.op rfl (opW.lss rfl rfl ?_)
      refine WL.nil ?_
      refine thenQ_n (hK12 _ _ ?_)
      refine WC.cond _ rfl (fun hc1 => ?_) (fun hc1 => ?_)
      ·
        have hr1 := hc1
        try simp only [decide_eq_true_eq, decide_eq_false_iff_not, Bool.and_eq_true, Bool.or_eq_true, Bool.and_eq_false_iff, Bool.or_eq_false_iff, Bool.not_eq_true', Bool.not_eq_false', Int.not_lt, Int.not_le] at hc1
        have hkl : k < xs.length := by omega
        have hact := hall k hkl
        unfold actB at hact
        rw [Bool.or_eq_false_iff] at hact
        have hln := longB_no hact.2
        have hk4 := hact.1
        simp only [Bool.or_eq_false_iff, decide_eq_false_iff_not] at hk4
        obtain ⟨hmkk, hmll, hmmm, hmss⟩ := hac k hkl
        refine WC.skip ?_
        refine thenQ_n (hK11 _ _ ?_)
        refine WC.seq (fun K13 hK13 => ?_)
        refine WC.block ?_
        refine WC.seq (fun K14 hK14 => ?_)
        refine WC.region ?_
        refine WL.op rfl (opW.moveV (v := v) rfl ?_)
        refine WL.op rfl (opW.moveI rfl ?_)
        refine WL.op rfl (opW.idxV rfl ((hx.bel hS.old)) rfl (by omega) ?_)
        refine WL.op rfl (opW.loadV rfl (((hx.bel hS.old).isPt hkl).ldA (Enc.size_eq xs[k])) ?_)
        refine WL.op rfl (opW.allocA hS ?_)
        intro b8 w _ hS
        refine WL.op0 (opW.storeE hS rfl rfl (by first | exact .h0 | exact .h1 | exact .h2 | exact .h3 | exact .h4 | exact .h5 | exact .h6 | exact .h7 | exact .h8 | exact .h9 | exact .h10 | exact .h11 | exact .h12 | exact .h13 | exact .h14) (by first | rfl | exact Enc.size_eq _) ?_)
        intro w hS; replace hS := hS _ (by first | exact .h0 | exact .h1 | exact .h2 | exact .h3 | exact .h4 | exact .h5 | exact .h6 | exact .h7 | exact .h8 | exact .h9 | exact .h10 | exact .h11 | exact .h12 | exact .h13 | exact .h14)
        refine WL.nil ?_
        refine thenQ_n (hK14 _ _ ?_)
        refine WC.mid (fun f w => ∃ (p3 q3 : Nat) (d3 : TbD) (m3 : RtD) (o3 : TbD) (n3 : RtD), Fits [(0, v), (3, .pointer (some ⟨p, 0, none⟩)), (4, .pointer (some ⟨q, 0, none⟩)), (5, .pointer (some ⟨p3, 0, none⟩)), (6, .pointer (some ⟨q3, 0, none⟩)), (7, .int .i64 (k : Int)), (8, .pointer (some ⟨b8, 0, none⟩))] f ∧ St w0 [blkE b8 (Enc.enc xs[k]) 38, tcE p3 o3, rcE q3 n3, tbE p d3, rtE q m3] w ∧ PlayI d3 m3 o3 n3 ∧ m3.l.length ≤ k + 1) ?_ ?_
        ·
          refine WC.seq (fun K15 hK15 => ?_)
          refine WC.region ?_
          refine WL.op rfl (opW.fieldAddrB rfl ?_)
          refine WL.op rfl (opW.loadV rfl (hS.ld1 (by first | exact .h0 | exact .h1 | exact .h2 | exact .h3 | exact .h4 | exact .h5 | exact .h6 | exact .h7 | exact .h8 | exact .h9 | exact .h10 | exact .h11 | exact .h12 | exact .h13 | exact .h14) (Act.at_kind _)) ?_)
          refine WL.op rfl (opW.rem rfl rfl (by omega) (tmod_nat xs[k].kind.toNat 4) ?_)
          refine WL.nil ?_
          refine thenQ_n (hK15 _ _ ?_)
          refine WC.block ?_
          refine WC.mid (fun f w => ∃ b1 : Bool, Fits [(0, v), (3, .pointer (some ⟨p, 0, none⟩)), (4, .pointer (some ⟨q, 0, none⟩)), (5, .pointer (some ⟨p2, 0, none⟩)), (6, .pointer (some ⟨q2, 0, none⟩)), (7, .int .i64 (k : Int)), (8, .pointer (some ⟨b8, 0, none⟩)), (46, .int .u8 ((xs[k].kind.toNat % 4 : Nat) : Int)), (47, .bool b1)] f ∧ St w0 [blkE b8 (Enc.enc xs[k]) 38, tcE p2 o, rcE q2 n, tbE p d, rtE q m] w) ?_ ?_
          ·
            refine WC.seq (fun K16 hK16 => ?_)
            refine WC.region ?_
            refine WL.op rfl (opW.eql rfl rfl ?_)
            refine WL.op rfl (opW.assignB rfl ?_)
            refine WL.nil ?_
            refine thenQ_n (hK16 _ _ ?_)
            refine WC.cond _ rfl (fun hc2 => ?_) (fun hc2 => ?_)
            ·
              have hr2 := hc2
              try simp only [decide_eq_true_eq, decide_eq_false_iff_not, Bool.and_eq_true, Bool.or_eq_true, Bool.and_eq_false_iff, Bool.or_eq_false_iff, Bool.not_eq_true', Bool.not_eq_false', Int.not_lt, Int.not_le] at hc2
              refine WC.skip ?_
              refine thenQ_n ?_
              exact ⟨_, ⟨rfl, rfl, rfl, rfl, rfl, rfl, rfl, rfl, rfl, trivial⟩, hS⟩
            ·
              have hr2 := hc2
              try simp only [decide_eq_true_eq, decide_eq_false_iff_not, Bool.and_eq_true, Bool.or_eq_true, Bool.and_eq_false_iff, Bool.or_eq_false_iff, Bool.not_eq_true', Bool.not_eq_false', Int.not_lt, Int.not_le] at hc2
              refine WC.region ?_
              refine WL.op rfl (opW.eql rfl rfl ?_)
              refine WL.op rfl (opW.assignB rfl ?_)
              refine WL.nil ?_
              refine thenQ_n ?_
              exact ⟨_, ⟨rfl, rfl, rfl, rfl, rfl, rfl, rfl, rfl, rfl, trivial⟩, hS⟩
          ·
            rintro f w ⟨b1, hfit, hS⟩
            refine WC.fits _ hfit (fun g => ?_)
            clear hfit
            refine WC.cond _ rfl (fun hc3 => ?_) (fun hc3 => ?_)
            ·
              have hr3 := hc3
              try simp only [decide_eq_true_eq, decide_eq_false_iff_not, Bool.and_eq_true, Bool.or_eq_true, Bool.and_eq_false_iff, Bool.or_eq_false_iff, Bool.not_eq_true', Bool.not_eq_false', Int.not_lt, Int.not_le] at hc3
              refine WC.seq (fun K17 hK17 => ?_)
              refine WC.region ?_
              refine WL.op rfl (opW.fieldAddrB rfl ?_)
              refine WL.op rfl (opW.loadV rfl (hS.ld1 (by first | exact .h0 | exact .h1 | exact .h2 | exact .h3 | exact .h4 | exact .h5 | exact .h6 | exact .h7 | exact .h8 | exact .h9 | exact .h10 | exact .h11 | exact .h12 | exact .h13 | exact .h14) (Act.at_keys _)) ?_)
              refine WL.op rfl (opW.call (twinKeys_ok _ _ (ac k).keys (hmkk.bel hS.old) (by omega)) rfl ?_)
              rintro _ w ⟨fv, rfl, hcf, hnf, hw⟩
              replace hS := hS.newOwn hw hnf.1 hnf.2
              refine WL.op rfl (opW.assignV (v := (cutV fv 0 (ac k).keys.length ((ac k).keys.length + 3) (Enc.sz (Vector UInt8 32)))) rfl ?_)
              refine WL.nil ?_
              refine thenQ_n (hK17 _ _ ?_)
              refine WC.seq (fun K18 hK18 => ?_)
              refine WC.seq (fun K19 hK19 => ?_)
              refine WC.drawI 19 (.look 0 (.look 1 (.look 2 (.look 3 (.look 5 (.look 6 (.look 7 (.look 8 (.look 9 (.one 4 (.one 10 (.look 11 (.look 12 (.look 13 (.look 14 (.look 15 (.one 16 (.look 17 (.look 18 .nil))))))))))))))))))) (by kernel_rfl) (fun _ _ _ h => h) (fun w1 hw1 => ?_)
              replace hS := hS.bel hw1
              have hS1 := hS
              refine ⟨fun w => St w0 [blkE b8 (Enc.enc xs[k]) 38] w, hS.sub (by repeat (first | with_reducible exact List.nil_sublist _ | with_reducible exact List.Sublist.refl _ | with_reducible refine List.Sublist.cons₂ _ ?_ | with_reducible refine List.Sublist.cons _ ?_)), ?_⟩
              refine ML.look rfl rfl rfl (fun w hw => (by have hS := hw; exact opW.moveV (v := .pointer (some ⟨p, 0, none⟩)) rfl ⟨rfl, rfl⟩)) ?_
              refine ML.look rfl rfl rfl (fun w hw => (by have hS := hw; exact opW.fieldAddrB rfl ⟨rfl, rfl⟩)) ?_
              refine ML.look rfl rfl rfl (fun w hw => (by have hS := hw; exact opW.loadV rfl (hS.ldF (cs := Enc.enc xs[k]) (o := 1) (by first | exact .h0 | exact .h1 | exact .h2 | exact .h3 | exact .h4 | exact .h5 | exact .h6 | exact .h7 | exact .h8 | exact .h9 | exact .h10 | exact .h11 | exact .h12 | exact .h13 | exact .h14) (Act.ex_table _) (by rw [Enc.size_eq]; decide)) ⟨rfl, rfl⟩)) ?_
              refine ML.look rfl rfl rfl (fun w hw => (by have hS := hw; exact opW.moveV (v := (cutV fv 0 (ac k).keys.length ((ac k).keys.length + 3) (Enc.sz (Vector UInt8 32)))) rfl ⟨rfl, rfl⟩)) ?_
              refine ML.look rfl rfl rfl (fun w hw => (by have hS := hw; exact opW.moveV (v := .pointer (some ⟨q, 0, none⟩)) rfl ⟨rfl, rfl⟩)) ?_
              refine ML.look rfl rfl rfl (fun w hw => (by have hS := hw; exact opW.fieldAddrB rfl ⟨rfl, rfl⟩)) ?_
              refine ML.look rfl rfl rfl (fun w hw => (by have hS := hw; exact opW.loadV rfl (hS.ldF (cs := Enc.enc xs[k]) (o := 1) (by first | exact .h0 | exact .h1 | exact .h2 | exact .h3 | exact .h4 | exact .h5 | exact .h6 | exact .h7 | exact .h8 | exact .h9 | exact .h10 | exact .h11 | exact .h12 | exact .h13 | exact .h14) (Act.ex_table _) (by rw [Enc.size_eq]; decide)) ⟨rfl, rfl⟩)) ?_
              refine ML.look rfl rfl rfl (fun w hw => (by have hS := hw; exact opW.fieldAddrB rfl ⟨rfl, rfl⟩)) ?_
              refine ML.look rfl rfl rfl (fun w hw => (by have hS := hw; exact opW.loadV rfl (hS.ld1 (by first | exact .h0 | exact .h1 | exact .h2 | exact .h3 | exact .h4 | exact .h5 | exact .h6 | exact .h7 | exact .h8 | exact .h9 | exact .h10 | exact .h11 | exact .h12 | exact .h13 | exact .h14) (Act.at_keys _)) ⟨rfl, rfl⟩)) ?_
              refine ML.one rfl rfl rfl (opW.call (put_ok2 _ _ [ownE fv 36 ((ac k).keys ++ [markK, markK, markK]), blkE b8 (Enc.enc xs[k]) 38, tcE p2 o, rcE q2 n, rtE q m] p d xs[k].table (cutV fv 0 (ac k).keys.length ((ac k).keys.length + 3) (Enc.sz (Vector UInt8 32))) (ac k).keys (hS.pick (e := tbE p d) (by first | exact .h0 | exact .h1 | exact .h2 | exact .h3 | exact .h4 | exact .h5 | exact .h6 | exact .h7 | exact .h8 | exact .h9 | exact .h10 | exact .h11 | exact .h12 | exact .h13 | exact .h14)) hI.1 (fun w h => (h.sl (v := fv) (xs := ((ac k).keys ++ [markK, markK, markK])) (by first | exact .h0 | exact .h1 | exact .h2 | exact .h3 | exact .h4 | exact .h5 | exact .h6 | exact .h7 | exact .h8 | exact .h9 | exact .h10 | exact .h11 | exact .h12 | exact .h13 | exact .h14)).head (m := (ac k).keys.length + 3) (by omega) (by omega))) rfl ?_)
              rintro _ w ⟨d2, rfl, hp1, hp0, hsub2, hok2, hS⟩
              refine ⟨hS.sub (by repeat (first | with_reducible exact List.nil_sublist _ | with_reducible exact List.Sublist.refl _ | with_reducible refine List.Sublist.cons₂ _ ?_ | with_reducible refine List.Sublist.cons _ ?_)), ?_⟩
              refine ML.one rfl rfl rfl (opW.call (rput_ok _ _ [tbE p d2, ownE fv 36 ((ac k).keys ++ [markK, markK, markK]), blkE b8 (Enc.enc xs[k]) 38, tcE p2 o, rcE q2 n] q m xs[k].table xs[k].keys.v (ac k).keys (hS.pick (e := rtE q m) (by first | exact .h0 | exact .h1 | exact .h2 | exact .h3 | exact .h4 | exact .h5 | exact .h6 | exact .h7 | exact .h8 | exact .h9 | exact .h10 | exact .h11 | exact .h12 | exact .h13 | exact .h14)) hI.2.1 (fun w h => hmkk.bel h.old) (by omega)) rfl ?_)
              rintro _ w ⟨m2, rfl, hrp1, hrp0, hrok2, hml2, hS⟩
              refine ⟨hS.sub (by repeat (first | with_reducible exact List.nil_sublist _ | with_reducible exact List.Sublist.refl _ | with_reducible refine List.Sublist.cons₂ _ ?_ | with_reducible refine List.Sublist.cons _ ?_)), ?_⟩
              refine ML.look rfl rfl rfl (fun w hw => (by have hS := hw; exact opW.boolF (by rw [hI.2.2.2.2.1.put xs[k].table (ac k).keys]; simp) (opW.neq rfl rfl ⟨rfl, rfl⟩) ⟨rfl, rfl⟩)) ?_
              refine ML.look rfl rfl rfl (fun w hw => (by have hS := hw; exact opW.moveB rfl ⟨rfl, rfl⟩)) ?_
              refine ML.lookT 65 rfl rfl rfl rfl rfl rfl (fun w hw => (by have hS := hw; exact opW.moveV (v := (cutV fv 0 (ac k).keys.length ((ac k).keys.length + 3) (Enc.sz (Vector UInt8 32)))) rfl ⟨rfl, rfl⟩)) ?_
              refine ML.lookT 65 rfl rfl rfl rfl rfl rfl (fun w hw => (by have hS := hw; exact opW.fieldAddrB rfl ⟨rfl, rfl⟩)) ?_
              refine ML.lookT 65 rfl rfl rfl rfl rfl rfl (fun w hw => (by have hS := hw; exact opW.loadV rfl (hS.ld1 (by first | exact .h0 | exact .h1 | exact .h2 | exact .h3 | exact .h4 | exact .h5 | exact .h6 | exact .h7 | exact .h8 | exact .h9 | exact .h10 | exact .h11 | exact .h12 | exact .h13 | exact .h14) (Act.at_keys _)) ⟨rfl, rfl⟩)) ?_
              refine ML.oneT 65 rfl rfl rfl rfl rfl rfl (opW.call (leftKeys_ok _ fv _ (ac k).keys hcf (hS.sl (v := fv) (xs := ((ac k).keys ++ [markK, markK, markK])) (by first | exact .h0 | exact .h1 | exact .h2 | exact .h3 | exact .h4 | exact .h5 | exact .h6 | exact .h7 | exact .h8 | exact .h9 | exact .h10 | exact .h11 | exact .h12 | exact .h13 | exact .h14)) (hmkk.bel hS.old)) rfl ?_)
              rintro _ w ⟨rfl, hw⟩; replace hS := hS.bel hw
              refine ⟨hS.sub (by repeat (first | with_reducible exact List.nil_sublist _ | with_reducible exact List.Sublist.refl _ | with_reducible refine List.Sublist.cons₂ _ ?_ | with_reducible refine List.Sublist.cons _ ?_)), ?_⟩
              refine ML.lookT 65 rfl rfl rfl rfl rfl rfl (fun w hw => (by have hS := hw; exact opW.not rfl ⟨rfl, rfl⟩)) ?_
              refine ML.look rfl rfl rfl (fun w hw => (by have hS := hw; exact opW.pickT rfl rfl ⟨rfl, rfl⟩)) ?_
              refine ML.nil ?_
              have hI2 := hI.put hp1 hp0 hsub2 hok2 hrp1 hrp0 hrok2
              refine thenQ_n (hK19 _ _ ?_)
              refine WC.cond _ rfl (fun hc4 => ?_) (fun hc4 => ?_)
              ·
                have hr4 := hc4
                try simp only [decide_eq_true_eq, decide_eq_false_iff_not, Bool.and_eq_true, Bool.or_eq_true, Bool.and_eq_false_iff, Bool.or_eq_false_iff, Bool.not_eq_true', Bool.not_eq_false', Int.not_lt, Int.not_le] at hc4
                simp at hr4
              ·
                have hr4 := hc4
                try simp only [decide_eq_true_eq, decide_eq_false_iff_not, Bool.and_eq_true, Bool.or_eq_true, Bool.and_eq_false_iff, Bool.or_eq_false_iff, Bool.not_eq_true', Bool.not_eq_false', Int.not_lt, Int.not_le] at hc4
                refine WC.skip ?_
                refine thenQ_n (hK18 _ _ ?_)
                refine WC.seq (fun K20 hK20 => ?_)
                refine WC.region ?_
                refine WL.op rfl (opW.buildE (r := ((BookS.mk ⟨none, 0, 0⟩) : BookS)) (ps := BookS.parts ((BookS.mk ⟨none, 0, 0⟩) : BookS)) (BookS.enc_eq _) (by first | rfl | (simp only [kK, markK, enc_vset, enc_vz, Lookup.enc_eq, Lookup.parts, Act.enc_eq, Act.parts, TbS.enc_eq, TbS.parts, RTab.enc_eq, RTab.parts, RReg.enc_eq, RReg.parts, ShKey.enc_eq, ShKey.parts, BookS.enc_eq, BookS.parts]; rfl)) (by (repeat' (first | exact trivial | refine And.intro ?_ ?_)) <;> first | rfl | exact Enc.size_eq _ | (simp; done)) ?_)
                refine WL.op rfl (opW.allocA hS ?_)
                intro b10 w _ hS
                refine WL.op0 (opW.storeE hS rfl rfl (by first | exact .h0 | exact .h1 | exact .h2 | exact .h3 | exact .h4 | exact .h5 | exact .h6 | exact .h7 | exact .h8 | exact .h9 | exact .h10 | exact .h11 | exact .h12 | exact .h13 | exact .h14) (by first | rfl | exact Enc.size_eq _) ?_)
                intro w hS; replace hS := hS _ (by first | exact .h0 | exact .h1 | exact .h2 | exact .h3 | exact .h4 | exact .h5 | exact .h6 | exact .h7 | exact .h8 | exact .h9 | exact .h10 | exact .h11 | exact .h12 | exact .h13 | exact .h14)
                refine WL.nil ?_
                refine thenQ_n (hK20 _ _ ?_)
                refine WC.seq (fun K21 hK21 => ?_)
                refine WC.region ?_
                replace hS := hS.ownFront (v := fv) (E := 36) (xs := ((ac k).keys ++ [markK, markK, markK])) (k := (ac k).keys.length) (m := (ac k).keys.length + 3) (by simp) (by omega) (by omega) (by first | exact .h0 | exact .h1 | exact .h2 | exact .h3 | exact .h4 | exact .h5 | exact .h6 | exact .h7 | exact .h8 | exact .h9 | exact .h10 | exact .h11 | exact .h12 | exact .h13 | exact .h14)
                simp only [List.take_left] at hS
                replace hS := (hS.pick (e := ownE (cutV fv 0 (ac k).keys.length ((ac k).keys.length + 3) (Enc.sz (Vector UInt8 32))) 36 (ac k).keys) (by first | exact .h0 | exact .h1 | exact .h2 | exact .h3 | exact .h4 | exact .h5 | exact .h6 | exact .h7 | exact .h8 | exact .h9 | exact .h10 | exact .h11 | exact .h12 | exact .h13 | exact .h14)).pick (e := blkE b10 (Enc.enc (BookS.mk ⟨none, 0, 0⟩)) 55) (by first | exact .h0 | exact .h1 | exact .h2 | exact .h3 | exact .h4 | exact .h5 | exact .h6 | exact .h7 | exact .h8 | exact .h9 | exact .h10 | exact .h11 | exact .h12 | exact .h13 | exact .h14)
                replace hS := hS.bkNew
                refine WL.op rfl (opW.moveV (v := (cutV fv 0 (ac k).keys.length ((ac k).keys.length + 3) (Enc.sz (Vector UInt8 32)))) rfl ?_)
                refine WL.op rfl (opW.call (bkKeys_ok _ _ _ b10 _ [] _ (ac k).keys (by decide) hS) rfl ?_)
                rintro v74 w ⟨sv1, pg1, hS⟩
                refine WL.nil ?_
                refine thenQ_n (hK21 _ _ ?_)
                refine WC.seq (fun K22 hK22 => ?_)
                refine WC.region ?_
                refine WL.op rfl (opW.call (apart_ok _ _ _ b10 _ _ (hS.pick (by first | exact .h0 | exact .h1 | exact .h2 | exact .h3 | exact .h4 | exact .h5 | exact .h6 | exact .h7 | exact .h8 | exact .h9 | exact .h10 | exact .h11 | exact .h12 | exact .h13 | exact .h14))) rfl ?_)
                rintro _ w ⟨rfl, hS⟩
                refine WL.op rfl (opW.not rfl ?_)
                refine WL.nil ?_
                refine thenQ_n (hK22 _ _ ?_)
                refine WC.cond _ rfl (fun hc5 => ?_) (fun hc5 => ?_)
                ·
                  have hr5 := hc5
                  try simp only [decide_eq_true_eq, decide_eq_false_iff_not, Bool.and_eq_true, Bool.or_eq_true, Bool.and_eq_false_iff, Bool.or_eq_false_iff, Bool.not_eq_true', Bool.not_eq_false', Int.not_lt, Int.not_le] at hc5
                  simp at hr5
                ·
                  have hr5 := hc5
                  try simp only [decide_eq_true_eq, decide_eq_false_iff_not, Bool.and_eq_true, Bool.or_eq_true, Bool.and_eq_false_iff, Bool.or_eq_false_iff, Bool.not_eq_true', Bool.not_eq_false', Int.not_lt, Int.not_le] at hc5
                  refine WC.skip ?_
                  refine blockQ_n ?_
                  refine thenQ_n ?_
                  first | exact ⟨p2, q2, d2, m2, o, n, ⟨rfl, rfl, rfl, rfl, rfl, rfl, rfl, trivial⟩, (((((hS.pick (e := rtE q m2) (by first | exact .h0 | exact .h1 | exact .h2 | exact .h3 | exact .h4 | exact .h5 | exact .h6 | exact .h7 | exact .h8 | exact .h9 | exact .h10 | exact .h11 | exact .h12 | exact .h13 | exact .h14)).pick (e := tbE p d2) (by first | exact .h0 | exact .h1 | exact .h2 | exact .h3 | exact .h4 | exact .h5 | exact .h6 | exact .h7 | exact .h8 | exact .h9 | exact .h10 | exact .h11 | exact .h12 | exact .h13 | exact .h14)).pick (e := rcE q2 n) (by first | exact .h0 | exact .h1 | exact .h2 | exact .h3 | exact .h4 | exact .h5 | exact .h6 | exact .h7 | exact .h8 | exact .h9 | exact .h10 | exact .h11 | exact .h12 | exact .h13 | exact .h14)).pick (e := tcE p2 o) (by first | exact .h0 | exact .h1 | exact .h2 | exact .h3 | exact .h4 | exact .h5 | exact .h6 | exact .h7 | exact .h8 | exact .h9 | exact .h10 | exact .h11 | exact .h12 | exact .h13 | exact .h14)).pick (e := blkE b8 (Enc.enc xs[k]) 38) (by first | exact .h0 | exact .h1 | exact .h2 | exact .h3 | exact .h4 | exact .h5 | exact .h6 | exact .h7 | exact .h8 | exact .h9 | exact .h10 | exact .h11 | exact .h12 | exact .h13 | exact .h14)).sub (by repeat (first | with_reducible exact List.nil_sublist _ | with_reducible exact List.Sublist.refl _ | with_reducible refine List.Sublist.cons₂ _ ?_ | with_reducible refine List.Sublist.cons _ ?_)), hI2, by omega⟩ | exact ⟨p80, b87, d, m, ⟨r80, d.kvs⟩, ⟨s85, m.l⟩, ⟨rfl, rfl, rfl, rfl, rfl, rfl, rfl, trivial⟩, (((((hS.pick (e := rtE q m) (by first | exact .h0 | exact .h1 | exact .h2 | exact .h3 | exact .h4 | exact .h5 | exact .h6 | exact .h7 | exact .h8 | exact .h9 | exact .h10 | exact .h11 | exact .h12 | exact .h13 | exact .h14)).pick (e := tbE p d) (by first | exact .h0 | exact .h1 | exact .h2 | exact .h3 | exact .h4 | exact .h5 | exact .h6 | exact .h7 | exact .h8 | exact .h9 | exact .h10 | exact .h11 | exact .h12 | exact .h13 | exact .h14)).pick (e := rcE b87 ⟨s85, m.l⟩) (by first | exact .h0 | exact .h1 | exact .h2 | exact .h3 | exact .h4 | exact .h5 | exact .h6 | exact .h7 | exact .h8 | exact .h9 | exact .h10 | exact .h11 | exact .h12 | exact .h13 | exact .h14)).pick (e := tcE p80 ⟨r80, d.kvs⟩) (by first | exact .h0 | exact .h1 | exact .h2 | exact .h3 | exact .h4 | exact .h5 | exact .h6 | exact .h7 | exact .h8 | exact .h9 | exact .h10 | exact .h11 | exact .h12 | exact .h13 | exact .h14)).pick (e := blkE b8 (Enc.enc xs[k]) 38) (by first | exact .h0 | exact .h1 | exact .h2 | exact .h3 | exact .h4 | exact .h5 | exact .h6 | exact .h7 | exact .h8 | exact .h9 | exact .h10 | exact .h11 | exact .h12 | exact .h13 | exact .h14)).sub (by repeat (first | with_reducible exact List.nil_sublist _ | with_reducible exact List.Sublist.refl _ | with_reducible refine List.Sublist.cons₂ _ ?_ | with_reducible refine List.Sublist.cons _ ?_)), hI4, by omega⟩ | exact ⟨p2, q2, d, m, o, n, ⟨rfl, rfl, rfl, rfl, rfl, rfl, rfl, trivial⟩, (((((hS.pick (e := rtE q m) (by first | exact .h0 | exact .h1 | exact .h2 | exact .h3 | exact .h4 | exact .h5 | exact .h6 | exact .h7 | exact .h8 | exact .h9 | exact .h10 | exact .h11 | exact .h12 | exact .h13 | exact .h14)).pick (e := tbE p d) (by first | exact .h0 | exact .h1 | exact .h2 | exact .h3 | exact .h4 | exact .h5 | exact .h6 | exact .h7 | exact .h8 | exact .h9 | exact .h10 | exact .h11 | exact .h12 | exact .h13 | exact .h14)).pick (e := rcE q2 n) (by first | exact .h0 | exact .h1 | exact .h2 | exact .h3 | exact .h4 | exact .h5 | exact .h6 | exact .h7 | exact .h8 | exact .h9 | exact .h10 | exact .h11 | exact .h12 | exact .h13 | exact .h14)).pick (e := tcE p2 o) (by first | exact .h0 | exact .h1 | exact .h2 | exact .h3 | exact .h4 | exact .h5 | exact .h6 | exact .h7 | exact .h8 | exact .h9 | exact .h10 | exact .h11 | exact .h12 | exact .h13 | exact .h14)).pick (e := blkE b8 (Enc.enc xs[k]) 38) (by first | exact .h0 | exact .h1 | exact .h2 | exact .h3 | exact .h4 | exact .h5 | exact .h6 | exact .h7 | exact .h8 | exact .h9 | exact .h10 | exact .h11 | exact .h12 | exact .h13 | exact .h14)).sub (by repeat (first | with_reducible exact List.nil_sublist _ | with_reducible exact List.Sublist.refl _ | with_reducible refine List.Sublist.cons₂ _ ?_ | with_reducible refine List.Sublist.cons _ ?_)), hI, by omega⟩
            ·
              have hr3 := hc3
              try simp only [decide_eq_true_eq, decide_eq_false_iff_not, Bool.and_eq_true, Bool.or_eq_true, Bool.and_eq_false_iff, Bool.or_eq_false_iff, Bool.not_eq_true', Bool.not_eq_false', Int.not_lt, Int.not_le] at hc3
              refine WC.seq (fun K23 hK23 => ?_)
              refine WC.region ?_
              refine WL.op rfl (opW.eql rfl rfl ?_)
              refine WL.op rfl (opW.assignB rfl ?_)
              refine WL.nil ?_
              refine thenQ_n (hK23 _ _ ?_)
              refine WC.cond _ rfl (fun hc6 => ?_) (fun hc6 => ?_)
              ·
                have hr6 := hc6
                try simp only [decide_eq_true_eq, decide_eq_false_iff_not, Bool.and_eq_true, Bool.or_eq_true, Bool.and_eq_false_iff, Bool.or_eq_false_iff, Bool.not_eq_true', Bool.not_eq_false', Int.not_lt, Int.not_le] at hc6
                refine WC.seq (fun K24 hK24 => ?_)
                refine WC.region ?_
                refine WL.op rfl (opW.moveV (v := .pointer (some ⟨p, 0, none⟩)) rfl ?_)
                refine WL.op rfl (opW.call (copy_ok _ p d (hS.tbAt (by first | exact .h0 | exact .h1 | exact .h2 | exact .h3 | exact .h4 | exact .h5 | exact .h6 | exact .h7 | exact .h8 | exact .h9 | exact .h10 | exact .h11 | exact .h12 | exact .h13 | exact .h14))) rfl ?_)
                rintro _ w ⟨p80, r80, rfl, hn80b, hw⟩
                replace hS := hS.newE hw hn80b
                refine WL.op rfl (opW.assignV (v := .pointer (some ⟨p80, 0, none⟩)) rfl ?_)
                refine WL.nil ?_
                refine thenQ_n (hK24 _ _ ?_)
                refine WC.region ?_
                refine WL.op rfl (opW.moveV (v := .pointer (some ⟨q, 0, none⟩)) rfl ?_)
                refine WL.op rfl (opW.nilCheck rfl (((hS.rtAt (p := q) (d := m) (by first | exact .h0 | exact .h1 | exact .h2 | exact .h3 | exact .h4 | exact .h5 | exact .h6 | exact .h7 | exact .h8 | exact .h9 | exact .h10 | exact .h11 | exact .h12 | exact .h13 | exact .h14)).1).isP) ?_)
                refine WL.op rfl (opW.fieldAddrB rfl ?_)
                refine WL.op rfl (opW.loadV rfl (((hS.rtAt (p := q) (d := m) (by first | exact .h0 | exact .h1 | exact .h2 | exact .h3 | exact .h4 | exact .h5 | exact .h6 | exact .h7 | exact .h8 | exact .h9 | exact .h10 | exact .h11 | exact .h12 | exact .h13 | exact .h14)).1).at1 (RReg.at_l _)) ?_)
                refine WL.op rfl (opW.appendNil (α := RTab) rfl hS rfl ((hS.rtAt (p := q) (d := m) (by first | exact .h0 | exact .h1 | exact .h2 | exact .h3 | exact .h4 | exact .h5 | exact .h6 | exact .h7 | exact .h8 | exact .h9 | exact .h10 | exact .h11 | exact .h12 | exact .h13 | exact .h14)).2.1) (by have : (m.l.map Prod.fst).length = m.l.length := List.length_map _; omega) (by simp only [maxLen]; have : (m.l.map Prod.fst).length = m.l.length := List.length_map _; omega) ?_)
                intro v85 w hw hS
                obtain ⟨s85, rfl⟩ := (hS.sl (v := v85) (xs := m.l.map Prod.fst) (by first | exact .h0 | exact .h1 | exact .h2 | exact .h3 | exact .h4 | exact .h5 | exact .h6 | exact .h7 | exact .h8 | exact .h9 | exact .h10 | exact .h11 | exact .h12 | exact .h13 | exact .h14)).asV
                refine WL.op rfl (opW.buildE (r := ((RReg.mk s85) : RReg)) (ps := RReg.parts ((RReg.mk s85) : RReg)) (RReg.enc_eq _) (by first | rfl | (simp only [kK, markK, enc_vset, enc_vz, Lookup.enc_eq, Lookup.parts, Act.enc_eq, Act.parts, TbS.enc_eq, TbS.parts, RTab.enc_eq, RTab.parts, RReg.enc_eq, RReg.parts, ShKey.enc_eq, ShKey.parts, BookS.enc_eq, BookS.parts]; rfl)) (by (repeat' (first | exact trivial | refine And.intro ?_ ?_)) <;> first | rfl | exact Enc.size_eq _ | (simp; done)) ?_)
                refine WL.op rfl (opW.boxA hS (c := (Enc.enc (RReg.mk s85))) rfl ?_)
                intro b87 w _ hS
                refine WL.op rfl (opW.assignV (v := .pointer (some ⟨b87, 0, none⟩)) rfl ?_)
                replace hS := St.rcClose (p := b87) ⟨s85, m.l⟩ hS
                have hI4 : PlayI d m ⟨r80, d.kvs⟩ ⟨s85, m.l⟩ := ⟨hI.1, hI.2.1, SubM.refl ⟨r80, d.kvs⟩, fun x hx => hx, hI.2.2.2.2.1, fun k => hI.2.2.2.2.1 k⟩
                refine WL.nil ?_
                refine blockQ_n ?_
                refine thenQ_n ?_
                first | exact ⟨p2, q2, d2, m2, o, n, ⟨rfl, rfl, rfl, rfl, rfl, rfl, rfl, trivial⟩, (((((hS.pick (e := rtE q m2) (by first | exact .h0 | exact .h1 | exact .h2 | exact .h3 | exact .h4 | exact .h5 | exact .h6 | exact .h7 | exact .h8 | exact .h9 | exact .h10 | exact .h11 | exact .h12 | exact .h13 | exact .h14)).pick (e := tbE p d2) (by first | exact .h0 | exact .h1 | exact .h2 | exact .h3 | exact .h4 | exact .h5 | exact .h6 | exact .h7 | exact .h8 | exact .h9 | exact .h10 | exact .h11 | exact .h12 | exact .h13 | exact .h14)).pick (e := rcE q2 n) (by first | exact .h0 | exact .h1 | exact .h2 | exact .h3 | exact .h4 | exact .h5 | exact .h6 | exact .h7 | exact .h8 | exact .h9 | exact .h10 | exact .h11 | exact .h12 | exact .h13 | exact .h14)).pick (e := tcE p2 o) (by first | exact .h0 | exact .h1 | exact .h2 | exact .h3 | exact .h4 | exact .h5 | exact .h6 | exact .h7 | exact .h8 | exact .h9 | exact .h10 | exact .h11 | exact .h12 | exact .h13 | exact .h14)).pick (e := blkE b8 (Enc.enc xs[k]) 38) (by first | exact .h0 | exact .h1 | exact .h2 | exact .h3 | exact .h4 | exact .h5 | exact .h6 | exact .h7 | exact .h8 | exact .h9 | exact .h10 | exact .h11 | exact .h12 | exact .h13 | exact .h14)).sub (by repeat (first | with_reducible exact List.nil_sublist _ | with_reducible exact List.Sublist.refl _ | with_reducible refine List.Sublist.cons₂ _ ?_ | with_reducible refine List.Sublist.cons _ ?_)), hI2, by omega⟩ | exact ⟨p80, b87, d, m, ⟨r80, d.kvs⟩, ⟨s85, m.l⟩, ⟨rfl, rfl, rfl, rfl, rfl, rfl, rfl, trivial⟩, (((((hS.pick (e := rtE q m) (by first | exact .h0 | exact .h1 | exact .h2 | exact .h3 | exact .h4 | exact .h5 | exact .h6 | exact .h7 | exact .h8 | exact .h9 | exact .h10 | exact .h11 | exact .h12 | exact .h13 | exact .h14)).pick (e := tbE p d) (by first | exact .h0 | exact .h1 | exact .h2 | exact .h3 | exact .h4 | exact .h5 | exact .h6 | exact .h7 | exact .h8 | exact .h9 | exact .h10 | exact .h11 | exact .h12 | exact .h13 | exact .h14)).pick (e := rcE b87 ⟨s85, m.l⟩) (by first | exact .h0 | exact .h1 | exact .h2 | exact .h3 | exact .h4 | exact .h5 | exact .h6 | exact .h7 | exact .h8 | exact .h9 | exact .h10 | exact .h11 | exact .h12 | exact .h13 | exact .h14)).pick (e := tcE p80 ⟨r80, d.kvs⟩) (by first | exact .h0 | exact .h1 | exact .h2 | exact .h3 | exact .h4 | exact .h5 | exact .h6 | exact .h7 | exact .h8 | exact .h9 | exact .h10 | exact .h11 | exact .h12 | exact .h13 | exact .h14)).pick (e := blkE b8 (Enc.enc xs[k]) 38) (by first | exact .h0 | exact .h1 | exact .h2 | exact .h3 | exact .h4 | exact .h5 | exact .h6 | exact .h7 | exact .h8 | exact .h9 | exact .h10 | exact .h11 | exact .h12 | exact .h13 | exact .h14)).sub (by repeat (first | with_reducible exact List.nil_sublist _ | with_reducible exact List.Sublist.refl _ | with_reducible refine List.Sublist.cons₂ _ ?_ | with_reducible refine List.Sublist.cons _ ?_)), hI4, by omega⟩ | exact ⟨p2, q2, d, m, o, n, ⟨rfl, rfl, rfl, rfl, rfl, rfl, rfl, trivial⟩, (((((hS.pick (e := rtE q m) (by first | exact .h0 | exact .h1 | exact .h2 | exact .h3 | exact .h4 | exact .h5 | exact .h6 | exact .h7 | exact .h8 | exact .h9 | exact .h10 | exact .h11 | exact .h12 | exact .h13 | exact .h14)).pick (e := tbE p d) (by first | exact .h0 | exact .h1 | exact .h2 | exact .h3 | exact .h4 | exact .h5 | exact .h6 | exact .h7 | exact .h8 | exact .h9 | exact .h10 | exact .h11 | exact .h12 | exact .h13 | exact .h14)).pick (e := rcE q2 n) (by first | exact .h0 | exact .h1 | exact .h2 | exact .h3 | exact .h4 | exact .h5 | exact .h6 | exact .h7 | exact .h8 | exact .h9 | exact .h10 | exact .h11 | exact .h12 | exact .h13 | exact .h14)).pick (e := tcE p2 o) (by first | exact .h0 | exact .h1 | exact .h2 | exact .h3 | exact .h4 | exact .h5 | exact .h6 | exact .h7 | exact .h8 | exact .h9 | exact .h10 | exact .h11 | exact .h12 | exact .h13 | exact .h14)).pick (e := blkE b8 (Enc.enc xs[k]) 38) (by first | exact .h0 | exact .h1 | exact .h2 | exact .h3 | exact .h4 | exact .h5 | exact .h6 | exact .h7 | exact .h8 | exact .h9 | exact .h10 | exact .h11 | exact .h12 | exact .h13 | exact .h14)).sub (by repeat (first | with_reducible exact List.nil_sublist _ | with_reducible exact List.Sublist.refl _ | with_reducible refine List.Sublist.cons₂ _ ?_ | with_reducible refine List.Sublist.cons _ ?_)), hI, by omega⟩
              ·
                have hr6 := hc6
                try simp only [decide_eq_true_eq, decide_eq_false_iff_not, Bool.and_eq_true, Bool.or_eq_true, Bool.and_eq_false_iff, Bool.or_eq_false_iff, Bool.not_eq_true', Bool.not_eq_false', Int.not_lt, Int.not_le] at hc6
                refine WC.skip ?_
                refine blockQ_n ?_
                refine thenQ_n ?_
                first | exact ⟨p2, q2, d2, m2, o, n, ⟨rfl, rfl, rfl, rfl, rfl, rfl, rfl, trivial⟩, (((((hS.pick (e := rtE q m2) (by first | exact .h0 | exact .h1 | exact .h2 | exact .h3 | exact .h4 | exact .h5 | exact .h6 | exact .h7 | exact .h8 | exact .h9 | exact .h10 | exact .h11 | exact .h12 | exact .h13 | exact .h14)).pick (e := tbE p d2) (by first | exact .h0 | exact .h1 | exact .h2 | exact .h3 | exact .h4 | exact .h5 | exact .h6 | exact .h7 | exact .h8 | exact .h9 | exact .h10 | exact .h11 | exact .h12 | exact .h13 | exact .h14)).pick (e := rcE q2 n) (by first | exact .h0 | exact .h1 | exact .h2 | exact .h3 | exact .h4 | exact .h5 | exact .h6 | exact .h7 | exact .h8 | exact .h9 | exact .h10 | exact .h11 | exact .h12 | exact .h13 | exact .h14)).pick (e := tcE p2 o) (by first | exact .h0 | exact .h1 | exact .h2 | exact .h3 | exact .h4 | exact .h5 | exact .h6 | exact .h7 | exact .h8 | exact .h9 | exact .h10 | exact .h11 | exact .h12 | exact .h13 | exact .h14)).pick (e := blkE b8 (Enc.enc xs[k]) 38) (by first | exact .h0 | exact .h1 | exact .h2 | exact .h3 | exact .h4 | exact .h5 | exact .h6 | exact .h7 | exact .h8 | exact .h9 | exact .h10 | exact .h11 | exact .h12 | exact .h13 | exact .h14)).sub (by repeat (first | with_reducible exact List.nil_sublist _ | with_reducible exact List.Sublist.refl _ | with_reducible refine List.Sublist.cons₂ _ ?_ | with_reducible refine List.Sublist.cons _ ?_)), hI2, by omega⟩ | exact ⟨p80, b87, d, m, ⟨r80, d.kvs⟩, ⟨s85, m.l⟩, ⟨rfl, rfl, rfl, rfl, rfl, rfl, rfl, trivial⟩, (((((hS.pick (e := rtE q m) (by first | exact .h0 | exact .h1 | exact .h2 | exact .h3 | exact .h4 | exact .h5 | exact .h6 | exact .h7 | exact .h8 | exact .h9 | exact .h10 | exact .h11 | exact .h12 | exact .h13 | exact .h14)).pick (e := tbE p d) (by first | exact .h0 | exact .h1 | exact .h2 | exact .h3 | exact .h4 | exact .h5 | exact .h6 | exact .h7 | exact .h8 | exact .h9 | exact .h10 | exact .h11 | exact .h12 | exact .h13 | exact .h14)).pick (e := rcE b87 ⟨s85, m.l⟩) (by first | exact .h0 | exact .h1 | exact .h2 | exact .h3 | exact .h4 | exact .h5 | exact .h6 | exact .h7 | exact .h8 | exact .h9 | exact .h10 | exact .h11 | exact .h12 | exact .h13 | exact .h14)).pick (e := tcE p80 ⟨r80, d.kvs⟩) (by first | exact .h0 | exact .h1 | exact .h2 | exact .h3 | exact .h4 | exact .h5 | exact .h6 | exact .h7 | exact .h8 | exact .h9 | exact .h10 | exact .h11 | exact .h12 | exact .h13 | exact .h14)).pick (e := blkE b8 (Enc.enc xs[k]) 38) (by first | exact .h0 | exact .h1 | exact .h2 | exact .h3 | exact .h4 | exact .h5 | exact .h6 | exact .h7 | exact .h8 | exact .h9 | exact .h10 | exact .h11 | exact .h12 | exact .h13 | exact .h14)).sub (by repeat (first | with_reducible exact List.nil_sublist _ | with_reducible exact List.Sublist.refl _ | with_reducible refine List.Sublist.cons₂ _ ?_ | with_reducible refine List.Sublist.cons _ ?_)), hI4, by omega⟩ | exact ⟨p2, q2, d, m, o, n, ⟨rfl, rfl, rfl, rfl, rfl, rfl, rfl, trivial⟩, (((((hS.pick (e := rtE q m) (by first | exact .h0 | exact .h1 | exact .h2 | exact .h3 | exact .h4 | exact .h5 | exact .h6 | exact .h7 | exact .h8 | exact .h9 | exact .h10 | exact .h11 | exact .h12 | exact .h13 | exact .h14)).pick (e := tbE p d) (by first | exact .h0 | exact .h1 | exact .h2 | exact .h3 | exact .h4 | exact .h5 | exact .h6 | exact .h7 | exact .h8 | exact .h9 | exact .h10 | exact .h11 | exact .h12 | exact .h13 | exact .h14)).pick (e := rcE q2 n) (by first | exact .h0 | exact .h1 | exact .h2 | exact .h3 | exact .h4 | exact .h5 | exact .h6 | exact .h7 | exact .h8 | exact .h9 | exact .h10 | exact .h11 | exact .h12 | exact .h13 | exact .h14)).pick (e := tcE p2 o) (by first | exact .h0 | exact .h1 | exact .h2 | exact .h3 | exact .h4 | exact .h5 | exact .h6 | exact .h7 | exact .h8 | exact .h9 | exact .h10 | exact .h11 | exact .h12 | exact .h13 | exact .h14)).pick (e := blkE b8 (Enc.enc xs[k]) 38) (by first | exact .h0 | exact .h1 | exact .h2 | exact .h3 | exact .h4 | exact .h5 | exact .h6 | exact .h7 | exact .h8 | exact .h9 | exact .h10 | exact .h11 | exact .h12 | exact .h13 | exact .h14)).sub (by repeat (first | with_reducible exact List.nil_sublist _ | with_reducible exact List.Sublist.refl _ | with_reducible refine List.Sublist.cons₂ _ ?_ | with_reducible refine List.Sublist.cons _ ?_)), hI, by omega⟩
        ·
          rintro f w ⟨p3, q3, d3, m3, o3, n3, hfit, hS, hI3, hmk3⟩
          refine WC.fits _ hfit (fun g => ?_)
          clear hfit
          refine WC.seq (fun K25 hK25 => ?_)
          refine WC.region ?_
          refine WL.op rfl (opW.moveV (v := .pointer (some ⟨p, 0, none⟩)) rfl ?_)
          refine WL.op rfl (opW.fieldAddrB rfl ?_)
          refine WL.op rfl (opW.loadV rfl (hS.ldF (cs := Enc.enc xs[k]) (o := 1) (by first | exact .h0 | exact .h1 | exact .h2 | exact .h3 | exact .h4 | exact .h5 | exact .h6 | exact .h7 | exact .h8 | exact .h9 | exact .h10 | exact .h11 | exact .h12 | exact .h13 | exact .h14) (Act.ex_table _) (by rw [Enc.size_eq]; decide)) ?_)
          refine WL.op rfl (opW.call (find_ok _ p d3 xs[k].table (hS.tbAt (by first | exact .h0 | exact .h1 | exact .h2 | exact .h3 | exact .h4 | exact .h5 | exact .h6 | exact .h7 | exact .h8 | exact .h9 | exact .h10 | exact .h11 | exact .h12 | exact .h13 | exact .h14)) hI3.1) rfl ?_)
          rintro _ w ⟨v92, e92, l92, rfl, hf92, hn92, hw⟩
          replace hS := hS.newOwn hw hn92.1 hn92.2
          refine WL.op rfl (opW.moveV (v := .tuple #[v92, .int .i64 e92]) rfl ?_)
          refine WL.op rfl (opW.extract rfl rfl ?_)
          refine WL.op rfl (opW.extract rfl rfl ?_)
          refine WL.op rfl (opW.assignV (v := v92) rfl ?_)
          refine WL.op rfl (opW.assignI rfl ?_)
          refine WL.nil ?_
          refine thenQ_n (hK25 _ _ ?_)
          refine WC.seq (fun K26 hK26 => ?_)
          refine WC.region ?_
          refine WL.op rfl (opW.moveV (v := .pointer (some ⟨q, 0, none⟩)) rfl ?_)
          refine WL.op rfl (opW.fieldAddrB rfl ?_)
          refine WL.op rfl (opW.loadV rfl (hS.ldF (cs := Enc.enc xs[k]) (o := 1) (by first | exact .h0 | exact .h1 | exact .h2 | exact .h3 | exact .h4 | exact .h5 | exact .h6 | exact .h7 | exact .h8 | exact .h9 | exact .h10 | exact .h11 | exact .h12 | exact .h13 | exact .h14) (Act.ex_table _) (by rw [Enc.size_eq]; decide)) ?_)
          refine WL.op rfl (opW.call (rfind_ok _ q m3 xs[k].table (hS.rtAt (by first | exact .h0 | exact .h1 | exact .h2 | exact .h3 | exact .h4 | exact .h5 | exact .h6 | exact .h7 | exact .h8 | exact .h9 | exact .h10 | exact .h11 | exact .h12 | exact .h13 | exact .h14)) hI3.2.1) rfl ?_)
          rintro _ w ⟨v99, e99, l99, rfl, hf99, hn99, hw⟩
          obtain ⟨rfl, rfl⟩ := find_same (hI3.2.2.2.2.1 xs[k].table) hf92 hf99
          replace hS := hS.newOwn hw hn99.1 hn99.2
          refine WL.op rfl (opW.moveV (v := .tuple #[v99, .int .i64 e99]) rfl ?_)
          refine WL.op rfl (opW.extract rfl rfl ?_)
          refine WL.op rfl (opW.extract rfl rfl ?_)
          refine WL.op rfl (opW.assignV (v := v99) rfl ?_)
          refine WL.op rfl (opW.assignI rfl ?_)
          refine WL.nil ?_
          refine thenQ_n (hK26 _ _ ?_)
          refine WC.seq (fun K27 hK27 => ?_)
          refine WC.region ?_
          refine WL.op rfl (opW.moveV (v := .pointer (some ⟨p3, 0, none⟩)) rfl ?_)
          refine WL.op rfl (opW.fieldAddrB rfl ?_)
          refine WL.op rfl (opW.loadV rfl (hS.ldF (cs := Enc.enc xs[k]) (o := 1) (by first | exact .h0 | exact .h1 | exact .h2 | exact .h3 | exact .h4 | exact .h5 | exact .h6 | exact .h7 | exact .h8 | exact .h9 | exact .h10 | exact .h11 | exact .h12 | exact .h13 | exact .h14) (Act.ex_table _) (by rw [Enc.size_eq]; decide)) ?_)
          refine WL.op rfl (opW.call (find_ok _ p3 o3 xs[k].table (hS.tcAt (p := p) (d := d3) (by first | exact .h0 | exact .h1 | exact .h2 | exact .h3 | exact .h4 | exact .h5 | exact .h6 | exact .h7 | exact .h8 | exact .h9 | exact .h10 | exact .h11 | exact .h12 | exact .h13 | exact .h14) (by first | exact .h0 | exact .h1 | exact .h2 | exact .h3 | exact .h4 | exact .h5 | exact .h6 | exact .h7 | exact .h8 | exact .h9 | exact .h10 | exact .h11 | exact .h12 | exact .h13 | exact .h14) hI3.2.2.1) (hI3.2.2.1.ok hI3.1)) rfl ?_)
          rintro _ w ⟨v106, e106, l106, rfl, hf106, hn106, hw⟩
          replace hS := hS.newOwn hw hn106.1 hn106.2
          refine WL.op rfl (opW.moveV (v := .tuple #[v106, .int .i64 e106]) rfl ?_)
          refine WL.op rfl (opW.extract rfl rfl ?_)
          refine WL.op rfl (opW.extract rfl rfl ?_)
          refine WL.op rfl (opW.assignV (v := v106) rfl ?_)
          refine WL.op rfl (opW.assignI rfl ?_)
          refine WL.nil ?_
          refine thenQ_n (hK27 _ _ ?_)
          refine WC.seq (fun K28 hK28 => ?_)
          refine WC.region ?_
          refine WL.op rfl (opW.moveV (v := .pointer (some ⟨q3, 0, none⟩)) rfl ?_)
          refine WL.op rfl (opW.fieldAddrB rfl ?_)
          refine WL.op rfl (opW.loadV rfl (hS.ldF (cs := Enc.enc xs[k]) (o := 1) (by first | exact .h0 | exact .h1 | exact .h2 | exact .h3 | exact .h4 | exact .h5 | exact .h6 | exact .h7 | exact .h8 | exact .h9 | exact .h10 | exact .h11 | exact .h12 | exact .h13 | exact .h14) (Act.ex_table _) (by rw [Enc.size_eq]; decide)) ?_)
          refine WL.op rfl (opW.call (rfind_ok _ q3 n3 xs[k].table (hS.rcAt (p := q) (d := m3) (by first | exact .h0 | exact .h1 | exact .h2 | exact .h3 | exact .h4 | exact .h5 | exact .h6 | exact .h7 | exact .h8 | exact .h9 | exact .h10 | exact .h11 | exact .h12 | exact .h13 | exact .h14) (by first | exact .h0 | exact .h1 | exact .h2 | exact .h3 | exact .h4 | exact .h5 | exact .h6 | exact .h7 | exact .h8 | exact .h9 | exact .h10 | exact .h11 | exact .h12 | exact .h13 | exact .h14) hI3.2.2.2.1) hI3.okn) rfl ?_)
          rintro _ w ⟨v113, e113, l113, rfl, hf113, hn113, hw⟩
          obtain ⟨rfl, rfl⟩ := find_same (hI3.2.2.2.2.2 xs[k].table) hf106 hf113
          replace hS := hS.newOwn hw hn113.1 hn113.2
          refine WL.op rfl (opW.moveV (v := .tuple #[v113, .int .i64 e113]) rfl ?_)
          refine WL.op rfl (opW.extract rfl rfl ?_)
          refine WL.op rfl (opW.extract rfl rfl ?_)
          refine WL.op rfl (opW.assignV (v := v113) rfl ?_)
          refine WL.op rfl (opW.assignI rfl ?_)
          refine WL.nil ?_
          refine thenQ_n (hK28 _ _ ?_)
          refine WC.seq (fun K29 hK29 => ?_)
          refine WC.seq (fun K30 hK30 => ?_)
          refine WC.region ?_
          refine WL.op rfl (opW.moveV (v := v92) rfl ?_)
          refine WL.op rfl (opW.moveV (v := v99) rfl ?_)
          refine WL.op rfl (opW.call (sameKeys_ok _ v92 v99 l99 l99 (hS.sl (v := v92) (xs := l99) (by first | exact .h0 | exact .h1 | exact .h2 | exact .h3 | exact .h4 | exact .h5 | exact .h6 | exact .h7 | exact .h8 | exact .h9 | exact .h10 | exact .h11 | exact .h12 | exact .h13 | exact .h14)) (hS.sl (v := v99) (xs := l99) (by first | exact .h0 | exact .h1 | exact .h2 | exact .h3 | exact .h4 | exact .h5 | exact .h6 | exact .h7 | exact .h8 | exact .h9 | exact .h10 | exact .h11 | exact .h12 | exact .h13 | exact .h14))) rfl ?_)
          rintro _ w ⟨rfl, hw⟩; replace hS := hS.bel hw
          rw [decide_eq_true (rfl : l99 = l99)]
          refine WL.op rfl (opW.not rfl ?_)
          refine WL.op rfl (opW.moveB rfl ?_)
          refine WL.gT 120 rfl rfl rfl (WL.op rfl (opW.moveI rfl ?_))
          refine WL.gT 120 rfl rfl rfl (WL.op rfl (opW.moveI rfl ?_))
          refine WL.gT 120 rfl rfl rfl (WL.op rfl (opW.boolF (by simp) (opW.neq rfl rfl ⟨rfl, rfl⟩) ?_))
          refine WL.op rfl (opW.pickT rfl rfl ?_)
          refine WL.op rfl (opW.moveB rfl ?_)
          refine WL.gT 125 rfl rfl rfl (WL.op rfl (opW.moveV (v := v106) rfl ?_))
          refine WL.gT 125 rfl rfl rfl (WL.op rfl (opW.moveV (v := v113) rfl ?_))
          refine WL.gT 125 rfl rfl rfl (WL.op rfl (opW.call (sameKeys_ok _ v106 v113 l113 l113 (hS.sl (v := v106) (xs := l113) (by first | exact .h0 | exact .h1 | exact .h2 | exact .h3 | exact .h4 | exact .h5 | exact .h6 | exact .h7 | exact .h8 | exact .h9 | exact .h10 | exact .h11 | exact .h12 | exact .h13 | exact .h14)) (hS.sl (v := v113) (xs := l113) (by first | exact .h0 | exact .h1 | exact .h2 | exact .h3 | exact .h4 | exact .h5 | exact .h6 | exact .h7 | exact .h8 | exact .h9 | exact .h10 | exact .h11 | exact .h12 | exact .h13 | exact .h14))) rfl ?_))
          rintro _ w ⟨rfl, hw⟩; replace hS := hS.bel hw
          rw [decide_eq_true (rfl : l113 = l113)]
          refine WL.gT 125 rfl rfl rfl (WL.op rfl (opW.not rfl ?_))
          refine WL.op rfl (opW.pickT rfl rfl ?_)
          refine WL.op rfl (opW.moveB rfl ?_)
          refine WL.gT 131 rfl rfl rfl (WL.op rfl (opW.moveI rfl ?_))
          refine WL.gT 131 rfl rfl rfl (WL.op rfl (opW.moveI rfl ?_))
          refine WL.gT 131 rfl rfl rfl (WL.op rfl (opW.boolF (by simp) (opW.neq rfl rfl ⟨rfl, rfl⟩) ?_))
          refine WL.op rfl (opW.pickT rfl rfl ?_)
          refine WL.nil ?_
          refine thenQ_n (hK30 _ _ ?_)
          refine WC.cond _ rfl (fun hc7 => ?_) (fun hc7 => ?_)
          ·
            have hr7 := hc7
            try simp only [decide_eq_true_eq, decide_eq_false_iff_not, Bool.and_eq_true, Bool.or_eq_true, Bool.and_eq_false_iff, Bool.or_eq_false_iff, Bool.not_eq_true', Bool.not_eq_false', Int.not_lt, Int.not_le] at hc7
            simp at hr7
          ·
            have hr7 := hc7
            try simp only [decide_eq_true_eq, decide_eq_false_iff_not, Bool.and_eq_true, Bool.or_eq_true, Bool.and_eq_false_iff, Bool.or_eq_false_iff, Bool.not_eq_true', Bool.not_eq_false', Int.not_lt, Int.not_le] at hc7
            refine WC.skip ?_
            refine thenQ_n (hK29 _ _ ?_)
            refine WC.seq (fun K31 hK31 => ?_)
            refine WC.region ?_
            refine WL.op rfl (opW.moveV (v := .pointer (some ⟨p, 0, none⟩)) rfl ?_)
            refine WL.op rfl (opW.fieldAddrB rfl ?_)
            refine WL.op rfl (opW.loadV rfl (hS.ld1 (by first | exact .h0 | exact .h1 | exact .h2 | exact .h3 | exact .h4 | exact .h5 | exact .h6 | exact .h7 | exact .h8 | exact .h9 | exact .h10 | exact .h11 | exact .h12 | exact .h13 | exact .h14) (Act.at_l _)) ?_)
            refine WL.op rfl (opW.call (resolve_ok _ p d3 xs[k].l.v (ac k).lk (ac k).ms (hS.tbAt (by first | exact .h0 | exact .h1 | exact .h2 | exact .h3 | exact .h4 | exact .h5 | exact .h6 | exact .h7 | exact .h8 | exact .h9 | exact .h10 | exact .h11 | exact .h12 | exact .h13 | exact .h14)) (hmll.bel hS.old) (hmmm.bel hS.old) (by omega)) rfl ?_)
            rintro _ w ⟨v140, u140, e140, ra, rb, rfl, hN1, hr1x⟩
            replace hS := hS.merge hN1
            simp only [List.cons_append, List.nil_append] at hS
            refine WL.op rfl (opW.moveV (v := .tuple #[v140, u140, .int .i64 e140]) rfl ?_)
            refine WL.op rfl (opW.extract rfl rfl ?_)
            refine WL.op rfl (opW.extract rfl rfl ?_)
            refine WL.op rfl (opW.extract rfl rfl ?_)
            refine WL.op rfl (opW.assignV (v := v140) rfl ?_)
            refine WL.op rfl (opW.assignV (v := u140) rfl ?_)
            refine WL.op rfl (opW.assignI rfl ?_)
            refine WL.nil ?_
            refine thenQ_n (hK31 _ _ ?_)
            refine WC.seq (fun K32 hK32 => ?_)
            refine WC.region ?_
            refine WL.op rfl (opW.moveV (v := .pointer (some ⟨q, 0, none⟩)) rfl ?_)
            refine WL.op rfl (opW.fieldAddrB rfl ?_)
            refine WL.op rfl (opW.loadV rfl (hS.ld1 (by first | exact .h0 | exact .h1 | exact .h2 | exact .h3 | exact .h4 | exact .h5 | exact .h6 | exact .h7 | exact .h8 | exact .h9 | exact .h10 | exact .h11 | exact .h12 | exact .h13 | exact .h14) (Act.at_l _)) ?_)
            refine WL.op rfl (opW.call (rresolve_ok _ q m3 xs[k].l.v (ac k).lk (ac k).ms (hS.rtAt (by first | exact .h0 | exact .h1 | exact .h2 | exact .h3 | exact .h4 | exact .h5 | exact .h6 | exact .h7 | exact .h8 | exact .h9 | exact .h10 | exact .h11 | exact .h12 | exact .h13 | exact .h14)) hI3.2.1 (hmll.bel hS.old) (hmmm.bel hS.old) (by omega)) rfl ?_)
            rintro _ w ⟨v148, u148, e148, rc, rd, rfl, hN2, hr2x⟩
            replace hS := hS.merge hN2
            simp only [List.cons_append, List.nil_append] at hS
            obtain ⟨rfl, rfl, rfl⟩ := ResIs.same hI3.2.2.2.2.1 hr1x hr2x
            refine WL.op rfl (opW.moveV (v := .tuple #[v148, u148, .int .i64 e148]) rfl ?_)
            refine WL.op rfl (opW.extract rfl rfl ?_)
            refine WL.op rfl (opW.extract rfl rfl ?_)
            refine WL.op rfl (opW.extract rfl rfl ?_)
            refine WL.op rfl (opW.assignV (v := v148) rfl ?_)
            refine WL.op rfl (opW.assignV (v := u148) rfl ?_)
            refine WL.op rfl (opW.assignI rfl ?_)
            refine WL.nil ?_
            refine thenQ_n (hK32 _ _ ?_)
            refine WC.seq (fun K33 hK33 => ?_)
            refine WC.seq (fun K34 hK34 => ?_)
            refine WC.region ?_
            refine WL.op rfl (opW.moveV (v := v140) rfl ?_)
            refine WL.op rfl (opW.moveV (v := v148) rfl ?_)
            refine WL.op rfl (opW.call (sameKeys_ok _ v140 v148 rc rc (hS.sl (v := v140) (xs := rc) (by first | exact .h0 | exact .h1 | exact .h2 | exact .h3 | exact .h4 | exact .h5 | exact .h6 | exact .h7 | exact .h8 | exact .h9 | exact .h10 | exact .h11 | exact .h12 | exact .h13 | exact .h14)) (hS.sl (v := v148) (xs := rc) (by first | exact .h0 | exact .h1 | exact .h2 | exact .h3 | exact .h4 | exact .h5 | exact .h6 | exact .h7 | exact .h8 | exact .h9 | exact .h10 | exact .h11 | exact .h12 | exact .h13 | exact .h14))) rfl ?_)
            rintro _ w ⟨rfl, hw⟩; replace hS := hS.bel hw
            rw [decide_eq_true (rfl : rc = rc)]
            refine WL.op rfl (opW.not rfl ?_)
            refine WL.op rfl (opW.moveB rfl ?_)
            refine WL.gT 156 rfl rfl rfl (WL.op rfl (opW.moveV (v := u140) rfl ?_))
            refine WL.gT 156 rfl rfl rfl (WL.op rfl (opW.moveV (v := u148) rfl ?_))
            refine WL.gT 156 rfl rfl rfl (WL.op rfl (opW.call (sameKeys_ok _ u140 u148 rd rd (hS.sl (v := u140) (xs := rd) (by first | exact .h0 | exact .h1 | exact .h2 | exact .h3 | exact .h4 | exact .h5 | exact .h6 | exact .h7 | exact .h8 | exact .h9 | exact .h10 | exact .h11 | exact .h12 | exact .h13 | exact .h14)) (hS.sl (v := u148) (xs := rd) (by first | exact .h0 | exact .h1 | exact .h2 | exact .h3 | exact .h4 | exact .h5 | exact .h6 | exact .h7 | exact .h8 | exact .h9 | exact .h10 | exact .h11 | exact .h12 | exact .h13 | exact .h14))) rfl ?_))
            rintro _ w ⟨rfl, hw⟩; replace hS := hS.bel hw
            rw [decide_eq_true (rfl : rd = rd)]
            refine WL.gT 156 rfl rfl rfl (WL.op rfl (opW.not rfl ?_))
            refine WL.op rfl (opW.pickT rfl rfl ?_)
            refine WL.op rfl (opW.moveB rfl ?_)
            refine WL.gT 162 rfl rfl rfl (WL.op rfl (opW.moveI rfl ?_))
            refine WL.gT 162 rfl rfl rfl (WL.op rfl (opW.moveI rfl ?_))
            refine WL.gT 162 rfl rfl rfl (WL.op rfl (opW.boolF (by simp) (opW.neq rfl rfl ⟨rfl, rfl⟩) ?_))
            refine WL.op rfl (opW.pickT rfl rfl ?_)
            refine WL.nil ?_
            refine thenQ_n (hK34 _ _ ?_)
            refine WC.cond _ rfl (fun hc8 => ?_) (fun hc8 => ?_)
            ·
              have hr8 := hc8
              try simp only [decide_eq_true_eq, decide_eq_false_iff_not, Bool.and_eq_true, Bool.or_eq_true, Bool.and_eq_false_iff, Bool.or_eq_false_iff, Bool.not_eq_true', Bool.not_eq_false', Int.not_lt, Int.not_le] at hc8
              simp at hr8
            ·
              have hr8 := hc8
              try simp only [decide_eq_true_eq, decide_eq_false_iff_not, Bool.and_eq_true, Bool.or_eq_true, Bool.and_eq_false_iff, Bool.or_eq_false_iff, Bool.not_eq_true', Bool.not_eq_false', Int.not_lt, Int.not_le] at hc8
              refine WC.skip ?_
              refine thenQ_n (hK33 _ _ ?_)
              refine WC.seq (fun K35 hK35 => ?_)
              refine WC.region ?_
              refine WL.op rfl (opW.buildE (r := ((BookS.mk ⟨none, 0, 0⟩) : BookS)) (ps := BookS.parts ((BookS.mk ⟨none, 0, 0⟩) : BookS)) (BookS.enc_eq _) (by first | rfl | (simp only [kK, markK, enc_vset, enc_vz, Lookup.enc_eq, Lookup.parts, Act.enc_eq, Act.parts, TbS.enc_eq, TbS.parts, RTab.enc_eq, RTab.parts, RReg.enc_eq, RReg.parts, ShKey.enc_eq, ShKey.parts, BookS.enc_eq, BookS.parts]; rfl)) (by (repeat' (first | exact trivial | refine And.intro ?_ ?_)) <;> first | rfl | exact Enc.size_eq _ | (simp; done)) ?_)
              refine WL.op rfl (opW.allocA hS ?_)
              intro b23 w _ hS
              refine WL.op0 (opW.storeE hS rfl rfl (by first | exact .h0 | exact .h1 | exact .h2 | exact .h3 | exact .h4 | exact .h5 | exact .h6 | exact .h7 | exact .h8 | exact .h9 | exact .h10 | exact .h11 | exact .h12 | exact .h13 | exact .h14) (by first | rfl | exact Enc.size_eq _) ?_)
              intro w hS; replace hS := hS _ (by first | exact .h0 | exact .h1 | exact .h2 | exact .h3 | exact .h4 | exact .h5 | exact .h6 | exact .h7 | exact .h8 | exact .h9 | exact .h10 | exact .h11 | exact .h12 | exact .h13 | exact .h14)
              refine WL.nil ?_
              refine thenQ_n (hK35 _ _ ?_)
              refine WC.seq (fun K36 hK36 => ?_)
              refine WC.region ?_
              replace hS := (hS.pick (e := ownE v92 36 l99) (by first | exact .h0 | exact .h1 | exact .h2 | exact .h3 | exact .h4 | exact .h5 | exact .h6 | exact .h7 | exact .h8 | exact .h9 | exact .h10 | exact .h11 | exact .h12 | exact .h13 | exact .h14)).pick (e := blkE b23 (Enc.enc (BookS.mk ⟨none, 0, 0⟩)) 55) (by first | exact .h0 | exact .h1 | exact .h2 | exact .h3 | exact .h4 | exact .h5 | exact .h6 | exact .h7 | exact .h8 | exact .h9 | exact .h10 | exact .h11 | exact .h12 | exact .h13 | exact .h14)
              replace hS := hS.bkNew
              refine WL.op rfl (opW.moveV (v := v92) rfl ?_)
              refine WL.op rfl (opW.call (bkKeys_ok _ _ _ b23 _ [] _ l99 (by decide) hS) rfl ?_)
              rintro v169 w ⟨svA, pgA, hS⟩
              refine WL.nil ?_
              refine thenQ_n (hK36 _ _ ?_)
              refine WC.seq (fun K37 hK37 => ?_)
              refine WC.region ?_
              replace hS := (hS.pick (e := ownE v106 36 l113) (by first | exact .h0 | exact .h1 | exact .h2 | exact .h3 | exact .h4 | exact .h5 | exact .h6 | exact .h7 | exact .h8 | exact .h9 | exact .h10 | exact .h11 | exact .h12 | exact .h13 | exact .h14)).pick (e := bkE b23 svA ([] ++ [pgA])) (by first | exact .h0 | exact .h1 | exact .h2 | exact .h3 | exact .h4 | exact .h5 | exact .h6 | exact .h7 | exact .h8 | exact .h9 | exact .h10 | exact .h11 | exact .h12 | exact .h13 | exact .h14)
              refine WL.op rfl (opW.moveV (v := v106) rfl ?_)
              refine WL.op rfl (opW.call (bkKeys_ok _ _ _ b23 _ _ _ l113 (by simp) hS) rfl ?_)
              rintro v171 w ⟨svB, pgB, hS⟩
              refine WL.nil ?_
              refine thenQ_n (hK37 _ _ ?_)
              refine WC.seq (fun K38 hK38 => ?_)
              refine WC.region ?_
              replace hS := (hS.pick (e := ownE v140 36 rc) (by first | exact .h0 | exact .h1 | exact .h2 | exact .h3 | exact .h4 | exact .h5 | exact .h6 | exact .h7 | exact .h8 | exact .h9 | exact .h10 | exact .h11 | exact .h12 | exact .h13 | exact .h14)).pick (e := bkE b23 svB ([] ++ [pgA] ++ [pgB])) (by first | exact .h0 | exact .h1 | exact .h2 | exact .h3 | exact .h4 | exact .h5 | exact .h6 | exact .h7 | exact .h8 | exact .h9 | exact .h10 | exact .h11 | exact .h12 | exact .h13 | exact .h14)
              refine WL.op rfl (opW.moveV (v := v140) rfl ?_)
              refine WL.op rfl (opW.call (bkKeys_ok _ _ _ b23 _ _ _ rc (by simp) hS) rfl ?_)
              rintro v173 w ⟨svC, pgC, hS⟩
              refine WL.nil ?_
              refine thenQ_n (hK38 _ _ ?_)
              refine WC.seq (fun K39 hK39 => ?_)
              refine WC.region ?_
              replace hS := (hS.pick (e := ownE u140 36 rd) (by first | exact .h0 | exact .h1 | exact .h2 | exact .h3 | exact .h4 | exact .h5 | exact .h6 | exact .h7 | exact .h8 | exact .h9 | exact .h10 | exact .h11 | exact .h12 | exact .h13 | exact .h14)).pick (e := bkE b23 svC ([] ++ [pgA] ++ [pgB] ++ [pgC])) (by first | exact .h0 | exact .h1 | exact .h2 | exact .h3 | exact .h4 | exact .h5 | exact .h6 | exact .h7 | exact .h8 | exact .h9 | exact .h10 | exact .h11 | exact .h12 | exact .h13 | exact .h14)
              refine WL.op rfl (opW.moveV (v := u140) rfl ?_)
              refine WL.op rfl (opW.call (bkKeys_ok _ _ _ b23 _ _ _ rd (by simp) hS) rfl ?_)
              rintro v175 w ⟨svD, pgD, hS⟩
              refine WL.nil ?_
              refine thenQ_n (hK39 _ _ ?_)
              refine WC.seq (fun K40 hK40 => ?_)
              refine WC.region ?_
              refine WL.op rfl (opW.call (apart_ok _ _ _ b23 _ _ (hS.pick (by first | exact .h0 | exact .h1 | exact .h2 | exact .h3 | exact .h4 | exact .h5 | exact .h6 | exact .h7 | exact .h8 | exact .h9 | exact .h10 | exact .h11 | exact .h12 | exact .h13 | exact .h14))) rfl ?_)
              rintro _ w ⟨rfl, hS⟩
              refine WL.op rfl (opW.not rfl ?_)
              replace hS : St w0 [blkE b8 (Enc.enc xs[k]) 38, tcE p3 o3, rcE q3 n3, tbE p d3, rtE q m3] _ := (((((hS.pick (e := rtE q m3) (by first | exact .h0 | exact .h1 | exact .h2 | exact .h3 | exact .h4 | exact .h5 | exact .h6 | exact .h7 | exact .h8 | exact .h9 | exact .h10 | exact .h11 | exact .h12 | exact .h13 | exact .h14)).pick (e := tbE p d3) (by first | exact .h0 | exact .h1 | exact .h2 | exact .h3 | exact .h4 | exact .h5 | exact .h6 | exact .h7 | exact .h8 | exact .h9 | exact .h10 | exact .h11 | exact .h12 | exact .h13 | exact .h14)).pick (e := rcE q3 n3) (by first | exact .h0 | exact .h1 | exact .h2 | exact .h3 | exact .h4 | exact .h5 | exact .h6 | exact .h7 | exact .h8 | exact .h9 | exact .h10 | exact .h11 | exact .h12 | exact .h13 | exact .h14)).pick (e := tcE p3 o3) (by first | exact .h0 | exact .h1 | exact .h2 | exact .h3 | exact .h4 | exact .h5 | exact .h6 | exact .h7 | exact .h8 | exact .h9 | exact .h10 | exact .h11 | exact .h12 | exact .h13 | exact .h14)).pick (e := blkE b8 (Enc.enc xs[k]) 38) (by first | exact .h0 | exact .h1 | exact .h2 | exact .h3 | exact .h4 | exact .h5 | exact .h6 | exact .h7 | exact .h8 | exact .h9 | exact .h10 | exact .h11 | exact .h12 | exact .h13 | exact .h14)).sub (by repeat (first | with_reducible exact List.nil_sublist _ | with_reducible exact List.Sublist.refl _ | with_reducible refine List.Sublist.cons₂ _ ?_ | with_reducible refine List.Sublist.cons _ ?_))
              refine WL.nil ?_
              refine thenQ_n (hK40 _ _ ?_)
              refine WC.cond _ rfl (fun hc9 => ?_) (fun hc9 => ?_)
              ·
                have hr9 := hc9
                try simp only [decide_eq_true_eq, decide_eq_false_iff_not, Bool.and_eq_true, Bool.or_eq_true, Bool.and_eq_false_iff, Bool.or_eq_false_iff, Bool.not_eq_true', Bool.not_eq_false', Int.not_lt, Int.not_le] at hc9
                simp at hr9
              ·
                have hr9 := hc9
                try simp only [decide_eq_true_eq, decide_eq_false_iff_not, Bool.and_eq_true, Bool.or_eq_true, Bool.and_eq_false_iff, Bool.or_eq_false_iff, Bool.not_eq_true', Bool.not_eq_false', Int.not_lt, Int.not_le] at hc9
                refine WC.skip ?_
                refine blockQ_n ?_
                refine thenQ_n (hK13 _ _ ?_)
                refine WC.region ?_
                refine WL.op rfl (opW.moveI rfl ?_)
                refine WL.op rfl (opW.add rfl rfl (wrap_i64 (by omega)) ?_)
                refine WL.op rfl (opW.assignI rfl ?_)
                refine WL.nil ?_
                refine thenQ_n ?_
                exact ⟨xs.length - (k + 1), by omega, k + 1, p, q, p3, q3, d3, m3, o3, n3, ⟨rfl, rfl, rfl, rfl, rfl, congrArg (Value.int .i64) (by omega), trivial⟩, hS.drop1, hI3, hmk3, by omega, rfl⟩
      ·
        have hr1 := hc1
        try simp only [decide_eq_true_eq, decide_eq_false_iff_not, Bool.and_eq_true, Bool.or_eq_true, Bool.and_eq_false_iff, Bool.or_eq_false_iff, Bool.not_eq_true', Bool.not_eq_false', Int.not_lt, Int.not_le] at hc1
        refine WC.exit ?_
        refine thenQ_e ?_
        refine thenQ_e ?_
        refine blockQ_hit ?_
        refine thenQ_n (hK9 _ _ ?_)
        refine WC.seq (fun K41 hK41 => ?_)
        refine WC.region ?_
        refine WL.op rfl (opW.call (lives06 _) rfl ?_)
        rintro _ w ⟨rfl, hw⟩; replace hS := hS.bel hw
        refine WL.op rfl (opW.assignB rfl ?_)
        refine WL.nil ?_
        refine thenQ_n (hK41 _ _ ?_)
        refine WC.ret ?_
        refine bodyQ_ret (.tmpB rfl .nil) ?_
        exact ⟨rfl, hS.old⟩

end Go.Fer
