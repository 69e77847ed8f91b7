/- RunsCoins -/
import Derived.Test.YtmibkfdpgmohfaaDoorM3
import Derived.Test.YtmibkfdpgmohfaaDoorM2
import Derived.Test.YtmibkfdpgmohfaaDoorL8
import Derived.Test.YtmibkfdpgmohfaaDoorL1
set_option linter.all false
namespace Go.Fer
open Go Go.Proofs Go.RowKit

theorem doF_coins {l : List Account} {r : List Role} {ats dt : List UInt8} (h : (doF l r ats dt).1 = 0) : sumC (doF l r ats dt).2.2 = sumC l ∧ ∀ k (hk : k < r.length), r[k].writes = false → (doF l r ats dt).2.2[k]? = l[k]? := by
  obtain ⟨x, a, b, hd⟩ := doF_ok h
  have hc := coins_ok hd
  rw [hd.res]
  refine ⟨hc.sum, fun k hk hw => ?_⟩
  have h2 : k < l.length := by rw [hd.len]; exact hk
  have h1 := h2
  rw [← hc.len] at h1
  show (actL x l a b (l[a]'hd.ha) (l[b]'hd.hb))[k]? = l[k]?
  rw [List.getElem?_eq_getElem h1, List.getElem?_eq_getElem h2]
  refine congrArg some (Classical.byContradiction fun hne => ?_)
  have := (hc.chg k h1 h2 hk hne).1
  rw [hw] at this; cases this
theorem stepF_coins {r : List Role} {bu : Nat} {bad : Int} {i : Nat} {q : PI} {x : XS} : sumC (stepF r bu bad i q x).2.l = sumC x.l ∧ ∀ k (hk : k < r.length), r[k].writes = false → (stepF r bu bad i q x).2.l[k]? = x.l[k]? := by
  by_cases h1 : bu < x.units ∨ bu - x.units < 150
  · rw [stepF_20 h1]; exact ⟨rfl, fun _ _ _ => rfl⟩
  · by_cases h2 : (i : Int) = bad
    · rw [stepF_21 h1 h2]; exact ⟨rfl, fun _ _ _ => rfl⟩
    · rw [stepF_act h1 h2]
      unfold actF
      split
      · exact ⟨rfl, fun _ _ _ => rfl⟩
      · split
        · split
          · exact ⟨rfl, fun _ _ _ => rfl⟩
          · next h5 => exact doF_coins (l := x.l) (by simpa using h5)
        · exact ⟨rfl, fun _ _ _ => rfl⟩
theorem runL_coins {r : List Role} {bu : Nat} {bad : Int} : ∀ {qs : List PI} {i : Nat} {x : XS}, sumC (runL r bu bad qs i x).2.2.l = sumC x.l ∧ ∀ k (hk : k < r.length), r[k].writes = false → (runL r bu bad qs i x).2.2.l[k]? = x.l[k]?
  | [], _, _ => ⟨rfl, fun _ _ _ => rfl⟩
  | q :: qs, i, x => by
    have hs := stepF_coins (r := r) (bu := bu) (bad := bad) (i := i) (q := q) (x := x)
    unfold runL
    split
    · exact hs
    · obtain ⟨h1, h2⟩ := runL_coins (r := r) (bu := bu) (bad := bad) (qs := qs) (i := i + 1) (x := (stepF r bu bad i q x).2)
      exact ⟨h1.trans hs.1, fun k hk hw => (h2 k hk hw).trans (hs.2 k hk hw)⟩
theorem accF_coins (R : Ready) (r : List Role) (qs : List PI) {l : List Account} (hw : ∀ a ∈ l, okW a) : sumC (accF R r qs l) = sumC l ∧ (accF R r qs l).length = l.length ∧ (∀ a ∈ accF R r qs l, okW a) ∧ ∀ k (hk : k < r.length), r[k].writes = false → (accF R r qs l)[k]? = l[k]? := by
  unfold accF
  split
  · obtain ⟨h1, h2⟩ := runL_coins (r := r) (bu := R.budget.units) (bad := R.budget.bad) (qs := qs) (i := 0) (x := ⟨0, 0, l⟩)
    obtain ⟨h3, h4⟩ := runL_len (r := r) (bu := R.budget.units) (bad := R.budget.bad) (qs := qs) (i := 0) (x := ⟨0, 0, l⟩) hw
    exact ⟨h1, h3, h4, h2⟩
  · exact ⟨rfl, rfl, hw, fun _ _ _ => rfl⟩
theorem pay_of {fee : Nat} {r : List Role} {l : List Account} (h : payB fee r l = true) (hl : l.length = r.length) : ∃ h0 : 0 < r.length, ∃ h1 : 0 < l.length, r[0].writes = true ∧ fee ≤ l[0].coins ∧ paidA fee l = l.set 0 { l[0] with coins := l[0].coins - fee } := by
  have h0 : 0 < r.length := by
    rcases Nat.eq_zero_or_pos r.length with h2 | h2
    · rw [List.length_eq_zero_iff.1 h2, payB_nil] at h; cases h
    · exact h2
  have h1 : 0 < l.length := by omega
  unfold payB at h
  rw [getD_of h0, getD_of h1] at h
  simp only [Bool.and_eq_true, decide_eq_true_eq] at h
  exact ⟨h0, h1, h.1.1, h.2, by unfold paidA; rw [getD_of h1]⟩
theorem paid_coins {fee : Nat} {r : List Role} {l : List Account} (h : payB fee r l = true) (hl : l.length = r.length) (hw : ∀ a ∈ l, okW a) : sumC (paidA fee l) + fee = sumC l ∧ (paidA fee l).length = l.length ∧ (∀ a ∈ paidA fee l, okW a) ∧ ∀ k (hk : k < r.length), r[k].writes = false → (paidA fee l)[k]? = l[k]? := by
  obtain ⟨h0, h1, h2, h3, h4⟩ := pay_of h hl
  rw [h4]
  have hs := sumC_set h1 { l[0] with coins := l[0].coins - fee }
  refine ⟨?_, List.length_set, fun a ha => ?_, fun k hk hw2 => ?_⟩
  · have : ({ l[0] with coins := l[0].coins - fee } : Account).coins = l[0].coins - fee := rfl
    omega
  · rcases List.mem_or_eq_of_mem_set ha with ha | rfl
    · exact hw a ha
    · have := hw _ (List.getElem_mem h1)
      exact ⟨by have := this.1; show l[0].coins - fee < _; omega, this.2⟩
  · have hk0 : k ≠ 0 := by rintro rfl; rw [h2] at hw2; cases hw2
    rw [List.getElem?_set_ne (by omega)]
/-- Load, in one form -/
def LoadIs (fee : Nat) (r : List Role) (A : List Account) (sv : SlV) (l2 : List Account) (e : Int) : Prop :=
  (e = 22 ∧ sv = ⟨none, 0, 0⟩ ∧ l2 = []) ∨ (e = 0 ∧ payB fee r A = true ∧ l2 = paidA fee A)
theorem load_any (wb w0 : World) (S : List Ent) (p : Nat) (d : StD) (R : Ready) (r : List Role) (hok : StOk d) (hsok : okS d) (hr : ∀ w, St wb S w → SlR w R.roles.v r) (hrb : r.length ≤ 100000) (hS0 : St wb (stE p d :: S) w0) :
    Ret Tryd.prog 10 #[.pointer (some ⟨p, 0, none⟩), .agg (Enc.enc R)] w0 (fun u w' => ∃ (d' : StD) (sv : SlV) (l2 : List Account) (e : Int), u = .tuple #[sv.v, .int .i64 e] ∧ (∀ k, d'.get k = d.get k) ∧ StOk d' ∧ LoadIs R.fee r (loadA d r) sv l2 e ∧ St wb (ownE sv.v 59 l2 :: stE p d' :: S) w') := by
  refine (load15 wb w0 S p d R r hok hsok hr hrb hS0).mono ?_
  rintro u w' ⟨d', h1, h2, (⟨h3, rfl, hS⟩ | ⟨h3, sv, rfl, hS⟩)⟩
  · exact ⟨d', ⟨none, 0, 0⟩, [], 22, rfl, h1, h2, .inl ⟨rfl, rfl, rfl⟩, hS.nilOwn _⟩
  · exact ⟨d', sv, _, 0, rfl, h1, h2, .inr ⟨rfl, h3, rfl⟩, hS⟩
theorem LoadIs.bad {fee : Nat} {r : List Role} {A : List Account} {sv : SlV} {l2 : List Account} {e : Int} (h : LoadIs fee r A sv l2 e) (he : e ≠ 0) : e = 22 ∧ sv = ⟨none, 0, 0⟩ ∧ l2 = [] := h.resolve_right (fun h => he h.1)
theorem LoadIs.good {fee : Nat} {r : List Role} {A : List Account} {sv : SlV} {l2 : List Account} {e : Int} (h : LoadIs fee r A sv l2 e) (he : e = 0) : payB fee r A = true ∧ l2 = paidA fee A := (h.resolve_left (fun h => absurd (he.symm.trans h.1) (by decide))).2

set_option maxRecDepth 20000 in
set_option maxHeartbeats 2000000 in
theorem coins15_law (w0 : World) (vl : Value) (l : List Holding) (R : Ready) (hR0 : R.okz w0) (hl : SlR w0 vl l) (hlw : ∀ h ∈ l, okW h.account) (hg : ErrLaid w0) : Ret Tryd.prog 3 #[vl, .agg (Enc.enc R)] w0 (fun r w' => r = .bool true ∧ Bel w0 w') := by
  refine Ret.enter (args := [vl, .agg (Enc.enc R)]) Tryd.func3 rfl Tryd.ntmps3 Tryd.results3 rfl ?_
  have hS := St.start w0
  obtain ⟨bs, sg, ks, ins, lks, r, hR⟩ := hR0.is
  obtain ⟨qs, hql, hin⟩ := qs_of hR.oi
  refine WC.seq (fun K1 hK1 => ?_)
  refine WC.region ?_
  refine WL.op rfl (opW.boxA hS rfl ?_)
  intro b3 w _ hS
  refine WL.op rfl (opW.assignB rfl ?_)
  refine WL.nil ?_
  refine thenQ_n (hK1 _ _ ?_)
  refine WC.seq (fun K2 hK2 => ?_)
  refine WC.seq (fun K3 hK3 => ?_)
  refine WC.region ?_
  refine WL.op rfl (opW.moveV (v := vl) rfl ?_)
  refine WL.op rfl (opW.lenV rfl ((hl.bel hS.old)) ?_)
  refine WL.op rfl (opW.gtr rfl rfl ?_)
  refine WL.op rfl (opW.moveB rfl ?_)
  cases hcs19 : (decide ((200 : Int) < (l.length : Int))) with
  | true =>
    refine WL.gF 19 rfl rfl rfl rfl ?_
    refine WL.gF 19 rfl rfl rfl rfl ?_
    refine WL.op rfl (opW.pickT rfl rfl ?_)
    refine WL.op rfl (opW.moveB rfl ?_)
    refine WL.gF 23 rfl rfl rfl rfl ?_
    refine WL.gF 23 rfl rfl rfl rfl ?_
    refine WL.gF 23 rfl rfl rfl rfl ?_
    refine WL.op rfl (opW.pickT rfl rfl ?_)
    refine WL.nil ?_
    refine thenQ_n (hK3 _ _ ?_)
    refine WC.cond _ rfl (fun hc0 => ?_) (fun hc0 => ?_)
    ·
      have hr0 := hc0
      try simp only [decide_eq_true_eq, decide_eq_false_iff_not, Bool.and_eq_true, Bool.or_eq_true, Bool.and_eq_false_iff, Bool.or_eq_false_iff, Bool.not_eq_true', Bool.not_eq_false', Int.not_lt, Int.not_le] at hc0
      refine WC.seq (fun K4 hK4 => ?_)
      refine WC.region ?_
      refine WL.op rfl (opW.call (lives15 _ (hg.bel hS.old)) rfl ?_)
      rintro _ w ⟨rfl, hw⟩; replace hS := hS.bel hw
      refine WL.op rfl (opW.assignB rfl ?_)
      refine WL.nil ?_
      refine thenQ_n (hK4 _ _ ?_)
      refine WC.ret ?_
      refine thenQ_r ?_
      refine bodyQ_ret (.tmpB rfl .nil) ?_
      exact ⟨rfl, hS.old⟩
    ·
      have hr0 := hc0
      try simp only [decide_eq_true_eq, decide_eq_false_iff_not, Bool.and_eq_true, Bool.or_eq_true, Bool.and_eq_false_iff, Bool.or_eq_false_iff, Bool.not_eq_true', Bool.not_eq_false', Int.not_lt, Int.not_le] at hc0
      cases hr0
  | false =>
    refine WL.gT 19 rfl rfl rfl (WL.op rfl (opW.loadV rfl (hS.ldA (b := b3) (cs := Enc.enc R) (by first | exact .h0 | exact .h1 | exact .h2 | exact .h3 | exact .h4 | exact .h5 | exact .h6 | exact .h7 | exact .h8 | exact .h9 | exact .h10 | exact .h11 | exact .h12 | exact .h13 | exact .h14) (Enc.size_eq R)) ?_))
    refine WL.gT 19 rfl rfl rfl (WL.op rfl (opW.call (great15 _ R bs sg ks ins lks r (hR.bel hS.old)) rfl ?_))
    rintro _ w ⟨bb, rfl, hbb, hw⟩; replace hS := hS.bel hw
    refine WL.op rfl (opW.pickT rfl rfl ?_)
    refine WL.op rfl (opW.moveB rfl ?_)
    cases hcs23 : (bb) with
    | true =>
      refine WL.gF 23 rfl rfl rfl rfl ?_
      refine WL.gF 23 rfl rfl rfl rfl ?_
      refine WL.gF 23 rfl rfl rfl rfl ?_
      refine WL.op rfl (opW.pickT rfl rfl ?_)
      refine WL.nil ?_
      refine thenQ_n (hK3 _ _ ?_)
      refine WC.cond _ rfl (fun hc0 => ?_) (fun hc0 => ?_)
      ·
        have hr0 := hc0
        try simp only [decide_eq_true_eq, decide_eq_false_iff_not, Bool.and_eq_true, Bool.or_eq_true, Bool.and_eq_false_iff, Bool.or_eq_false_iff, Bool.not_eq_true', Bool.not_eq_false', Int.not_lt, Int.not_le] at hc0
        refine WC.seq (fun K5 hK5 => ?_)
        refine WC.region ?_
        refine WL.op rfl (opW.call (lives15 _ (hg.bel hS.old)) rfl ?_)
        rintro _ w ⟨rfl, hw⟩; replace hS := hS.bel hw
        refine WL.op rfl (opW.assignB rfl ?_)
        refine WL.nil ?_
        refine thenQ_n (hK5 _ _ ?_)
        refine WC.ret ?_
        refine thenQ_r ?_
        refine bodyQ_ret (.tmpB rfl .nil) ?_
        exact ⟨rfl, hS.old⟩
      ·
        have hr0 := hc0
        try simp only [decide_eq_true_eq, decide_eq_false_iff_not, Bool.and_eq_true, Bool.or_eq_true, Bool.and_eq_false_iff, Bool.or_eq_false_iff, Bool.not_eq_true', Bool.not_eq_false', Int.not_lt, Int.not_le] at hc0
        cases hr0
    | false =>
      refine WL.gT 23 rfl rfl rfl (WL.op rfl (opW.fieldAddrB rfl ?_))
      refine WL.gT 23 rfl rfl rfl (WL.op rfl (opW.loadV rfl (hS.ld1 (b := b3) (cs := Enc.enc R) (by first | exact .h0 | exact .h1 | exact .h2 | exact .h3 | exact .h4 | exact .h5 | exact .h6 | exact .h7 | exact .h8 | exact .h9 | exact .h10 | exact .h11 | exact .h12 | exact .h13 | exact .h14) (Ready.at_roles R)) ?_))
      refine WL.gT 23 rfl rfl rfl (WL.op rfl (opW.call (twice15 _ R.roles.v r (hR.fr.bel hS.old)) rfl ?_))
      rintro _ w ⟨b2, rfl, hw⟩; replace hS := hS.bel hw
      refine WL.op rfl (opW.pickT rfl rfl ?_)
      refine WL.nil ?_
      refine thenQ_n (hK3 _ _ ?_)
      refine WC.cond _ rfl (fun hc0 => ?_) (fun hc0 => ?_)
      ·
        have hr0 := hc0
        try simp only [decide_eq_true_eq, decide_eq_false_iff_not, Bool.and_eq_true, Bool.or_eq_true, Bool.and_eq_false_iff, Bool.or_eq_false_iff, Bool.not_eq_true', Bool.not_eq_false', Int.not_lt, Int.not_le] at hc0
        refine WC.seq (fun K6 hK6 => ?_)
        refine WC.region ?_
        refine WL.op rfl (opW.call (lives15 _ (hg.bel hS.old)) rfl ?_)
        rintro _ w ⟨rfl, hw⟩; replace hS := hS.bel hw
        refine WL.op rfl (opW.assignB rfl ?_)
        refine WL.nil ?_
        refine thenQ_n (hK6 _ _ ?_)
        refine WC.ret ?_
        refine thenQ_r ?_
        refine bodyQ_ret (.tmpB rfl .nil) ?_
        exact ⟨rfl, hS.old⟩
      ·
        have hr0 := hc0
        try simp only [decide_eq_true_eq, decide_eq_false_iff_not, Bool.and_eq_true, Bool.or_eq_true, Bool.and_eq_false_iff, Bool.or_eq_false_iff, Bool.not_eq_true', Bool.not_eq_false', Int.not_lt, Int.not_le] at hc0
        have hsm := hbb hcs23
        have hll : l.length ≤ 200 := by simp only [decide_eq_false_iff_not] at hcs19; omega
        have hrl2 := hsm.r
        have hil2 := hsm.i
        refine WC.skip ?_
        refine thenQ_n (hK2 _ _ ?_)
        refine WC.seq (fun K7 hK7 => ?_)
        refine WC.region ?_
        refine WL.op rfl (opW.moveV (v := vl) rfl ?_)
        refine WL.op rfl (opW.call (stores15 _ vl l (hl.bel hS.old) (by omega) hlw) rfl ?_)
        rintro _ w ⟨p, q, d, rfl, hok, hoks, hN⟩
        replace hS := hS.merge hN
        simp only [List.cons_append, List.nil_append] at hS
        refine WL.op rfl (opW.moveV (v := .tuple #[.pointer (some ⟨p, 0, none⟩), .pointer (some ⟨q, 0, none⟩)]) rfl ?_)
        refine WL.op rfl (opW.extract rfl rfl ?_)
        refine WL.op rfl (opW.extract rfl rfl ?_)
        refine WL.op rfl (opW.assignV (v := .pointer (some ⟨p, 0, none⟩)) rfl ?_)
        refine WL.op rfl (opW.assignV (v := .pointer (some ⟨q, 0, none⟩)) rfl ?_)
        refine WL.nil ?_
        refine thenQ_n (hK7 _ _ ?_)
        refine WC.seq (fun K8 hK8 => ?_)
        refine WC.region ?_
        have hP := hS.pick (e := stE p d) (by first | exact .h0 | exact .h1 | exact .h2 | exact .h3 | exact .h4 | exact .h5 | exact .h6 | exact .h7 | exact .h8 | exact .h9 | exact .h10 | exact .h11 | exact .h12 | exact .h13 | exact .h14)
        refine WL.op rfl (opW.moveV (v := .pointer (some ⟨p, 0, none⟩)) rfl ?_)
        refine WL.op rfl (opW.loadV rfl (hS.ldA (b := b3) (cs := Enc.enc R) (by first | exact .h0 | exact .h1 | exact .h2 | exact .h3 | exact .h4 | exact .h5 | exact .h6 | exact .h7 | exact .h8 | exact .h9 | exact .h10 | exact .h11 | exact .h12 | exact .h13 | exact .h14) (Enc.size_eq R)) ?_)
        refine WL.op rfl (opW.call (load_any w0 _ _ p d R r hok hoks (fun w hS => hR.fr.bel hS.old) (by omega) hP) rfl ?_)
        rintro _ w ⟨d2, sv, l2, e, rfl, hd2, hok2, hL, hS⟩
        refine WL.op rfl (opW.moveV (v := .tuple #[sv.v, .int .i64 e]) rfl ?_)
        refine WL.op rfl (opW.extract rfl rfl ?_)
        refine WL.op rfl (opW.extract rfl rfl ?_)
        refine WL.op rfl (opW.assignV (v := sv.v) rfl ?_)
        refine WL.op rfl (opW.assignI rfl ?_)
        refine WL.nil ?_
        refine thenQ_n (hK8 _ _ ?_)
        refine WC.seq (fun K9 hK9 => ?_)
        refine WC.seq (fun K10 hK10 => ?_)
        refine WC.region ?_
        refine WL.op rfl (opW.moveI rfl ?_)
        refine WL.op rfl (opW.neq rfl rfl ?_)
        refine WL.nil ?_
        refine thenQ_n (hK10 _ _ ?_)
        refine WC.cond _ rfl (fun hc1 => ?_) (fun hc1 => ?_)
        ·
          have hr1 := hc1
          try simp only [decide_eq_true_eq, decide_eq_false_iff_not, Bool.and_eq_true, Bool.or_eq_true, Bool.and_eq_false_iff, Bool.or_eq_false_iff, Bool.not_eq_true', Bool.not_eq_false', Int.not_lt, Int.not_le] at hc1
          obtain ⟨rfl, hsv, rfl⟩ := hL.bad (by simpa using hc1)
          refine WC.seq (fun K11 hK11 => ?_)
          refine WC.region ?_
          refine WL.op rfl (opW.moveI rfl ?_)
          refine WL.op rfl (opW.boolT (rfl) (opW.eql rfl rfl ⟨rfl, rfl⟩) ?_)
          refine WL.op rfl (opW.moveB rfl ?_)
          refine WL.gT 44 rfl rfl rfl (WL.op rfl (opW.moveV (v := sv.v) rfl ?_))
          refine WL.gT 44 rfl rfl rfl (WL.op rfl (opW.lenV rfl ((show SlR _ sv.v ([] : List Account) from by rw [hsv]; exact SlR.nil _)) ?_))
          refine WL.gT 44 rfl rfl rfl (WL.op rfl (opW.boolT (rfl) (opW.eql rfl rfl ⟨rfl, rfl⟩) ?_))
          refine WL.op rfl (opW.pickT rfl rfl ?_)
          refine WL.op rfl (opW.moveB rfl ?_)
          refine WL.gT 49 rfl rfl rfl (WL.op rfl (opW.call (lives15 _ (hg.bel hS.old)) rfl ?_))
          rintro _ w ⟨rfl, hw⟩; replace hS := hS.bel hw
          refine WL.op rfl (opW.pickT rfl rfl ?_)
          refine WL.op rfl (opW.assignB rfl ?_)
          refine WL.nil ?_
          refine thenQ_n (hK11 _ _ ?_)
          refine WC.ret ?_
          refine thenQ_r ?_
          refine bodyQ_ret (.tmpB rfl .nil) ?_
          exact ⟨rfl, hS.old⟩
        ·
          have hr1 := hc1
          try simp only [decide_eq_true_eq, decide_eq_false_iff_not, Bool.and_eq_true, Bool.or_eq_true, Bool.and_eq_false_iff, Bool.or_eq_false_iff, Bool.not_eq_true', Bool.not_eq_false', Int.not_lt, Int.not_le] at hc1
          obtain ⟨hpay, rfl⟩ := hL.good (by simpa using hc1)
          have hAl := loadA_len d r
          have hAw : ∀ a ∈ (loadA d r), okW a := by
            intro a ha
            unfold loadA at ha
            obtain ⟨x, _, rfl⟩ := List.mem_map.1 ha
            exact hoks x.key
          obtain ⟨hp1, hp2, hp3, hp4⟩ := paid_coins hpay hAl hAw
          refine WC.skip ?_
          refine thenQ_n (hK9 _ _ ?_)
          refine WC.seq (fun K12 hK12 => ?_)
          refine WC.region ?_
          refine WL.op rfl (opW.loadV rfl (hS.ldA (b := b3) (cs := Enc.enc R) (by first | exact .h0 | exact .h1 | exact .h2 | exact .h3 | exact .h4 | exact .h5 | exact .h6 | exact .h7 | exact .h8 | exact .h9 | exact .h10 | exact .h11 | exact .h12 | exact .h13 | exact .h14) (Enc.size_eq R)) ?_)
          refine WL.op rfl (opW.moveV (v := sv.v) rfl ?_)
          refine WL.op rfl (opW.call (run_any _ R sv (paidA R.fee (loadA d r)) r ins qs (hg.bel hS.old) (hS.sl (v := sv.v) (xs := (paidA R.fee (loadA d r))) (by first | exact .h0 | exact .h1 | exact .h2 | exact .h3 | exact .h4 | exact .h5 | exact .h6 | exact .h7 | exact .h8 | exact .h9 | exact .h10 | exact .h11 | exact .h12 | exact .h13 | exact .h14)) (hR.fr.bel hS.old) (hR.fi.bel hS.old) hql (fun k h h2 => (hin k h h2).bel hS.old) (by have := hR.bu; omega) (by omega) (by omega) hp3) rfl ?_)
          rintro _ w ⟨o, e2, ch, rfl, hn55, hO, hw⟩; replace hS := hS.newOwn hw hn55.1 hn55.2
          refine WL.op rfl (opW.moveV (v := .tuple #[.agg (Enc.enc o), .int .i64 e2]) rfl ?_)
          refine WL.op rfl (opW.extract rfl rfl ?_)
          refine WL.op rfl (opW.extract rfl rfl ?_)
          refine WL.op rfl (opW.allocA hS ?_)
          intro b9 w _ hS
          refine WL.op0 (opW.storeE hS rfl rfl (by first | exact .h0 | exact .h1 | exact .h2 | exact .h3 | exact .h4 | exact .h5 | exact .h6 | exact .h7 | exact .h8 | exact .h9 | exact .h10 | exact .h11 | exact .h12 | exact .h13 | exact .h14) (by first | rfl | exact Enc.size_eq _) ?_)
          intro w hS; replace hS := hS _ (by first | exact .h0 | exact .h1 | exact .h2 | exact .h3 | exact .h4 | exact .h5 | exact .h6 | exact .h7 | exact .h8 | exact .h9 | exact .h10 | exact .h11 | exact .h12 | exact .h13 | exact .h14)
          refine WL.op rfl (opW.assignI rfl ?_)
          refine WL.nil ?_
          refine thenQ_n (hK12 _ _ ?_)
          refine WC.seq (fun K13 hK13 => ?_)
          refine WC.seq (fun K14 hK14 => ?_)
          refine WC.region ?_
          refine WL.op rfl (opW.moveI rfl ?_)
          refine WL.op rfl (opW.neq rfl rfl ?_)
          refine WL.nil ?_
          refine thenQ_n (hK14 _ _ ?_)
          refine WC.cond _ rfl (fun hc2 => ?_) (fun hc2 => ?_)
          ·
            have hr2 := hc2
            try simp only [decide_eq_true_eq, decide_eq_false_iff_not, Bool.and_eq_true, Bool.or_eq_true, Bool.and_eq_false_iff, Bool.or_eq_false_iff, Bool.not_eq_true', Bool.not_eq_false', Int.not_lt, Int.not_le] at hc2
            obtain ⟨rfl, hbad, rfl, rfl⟩ := hO.bad (by simpa using hc2)
            refine WC.seq (fun K15 hK15 => ?_)
            refine WC.region ?_
            refine WL.op rfl (opW.moveI rfl ?_)
            refine WL.op rfl (opW.boolT (rfl) (opW.eql rfl rfl ⟨rfl, rfl⟩) ?_)
            refine WL.op rfl (opW.moveB rfl ?_)
            refine WL.gT 62 rfl rfl rfl (WL.op rfl (opW.call (lives15 _ (hg.bel hS.old)) rfl ?_))
            rintro _ w ⟨rfl, hw⟩; replace hS := hS.bel hw
            refine WL.op rfl (opW.pickT rfl rfl ?_)
            refine WL.op rfl (opW.assignB rfl ?_)
            refine WL.nil ?_
            refine thenQ_n (hK15 _ _ ?_)
            refine WC.ret ?_
            refine thenQ_r ?_
            refine bodyQ_ret (.tmpB rfl .nil) ?_
            exact ⟨rfl, hS.old⟩
          ·
            have hr2 := hc2
            try simp only [decide_eq_true_eq, decide_eq_false_iff_not, Bool.and_eq_true, Bool.or_eq_true, Bool.and_eq_false_iff, Bool.or_eq_false_iff, Bool.not_eq_true', Bool.not_eq_false', Int.not_lt, Int.not_le] at hc2
            obtain ⟨hbad, so, rfl, rfl⟩ := hO.good (by simpa using hc2)
            obtain ⟨hc1', hc2', hc3', hc4'⟩ := accF_coins R r qs hp3
            obtain ⟨acc, hacc⟩ : ∃ x, accF R r qs (paidA R.fee (loadA d r)) = x := ⟨_, rfl⟩
            rw [hacc] at hS hc1' hc2' hc3' hc4'
            have hal : acc.length = r.length := by omega
            have hsame : ∀ k (hk : k < r.length) (h1 : k < acc.length), r[k].writes = false → acc[k] = d.get r[k].key := by
              intro k hk h1 hw
              have e1 := (hc4' k hk hw).trans (hp4 k hk hw)
              rw [List.getElem?_eq_getElem h1, List.getElem?_eq_getElem (by omega), loadA_get (by omega) hk] at e1
              exact Option.some.inj e1
            have hsum : sumC (loadA d r) = sumC (acc ++ [⟨R.fee, vz 32, 0⟩]) := by
              have : sumC (acc ++ [⟨R.fee, vz 32, 0⟩]) = sumC acc + R.fee := by simp [sumC]
              omega
            have haw : ∀ y ∈ acc ++ [(⟨R.fee, vz 32, 0⟩ : Account)], okW y := by
              intro y hy
              rcases List.mem_append.1 hy with hy | hy
              · exact hc3' y hy
              · obtain rfl := List.mem_singleton.1 hy
                exact ⟨by have := hR.fee; show R.fee < _; omega, show (0 : Nat) < 18446744073709551616 from by decide⟩
            refine WC.skip ?_
            refine thenQ_n (hK13 _ _ ?_)
            refine WC.seq (fun K16 hK16 => ?_)
            refine WC.region ?_
            refine WL.op rfl (opW.assignV (v := .slice none 0 0) rfl ?_)
            refine WL.op rfl (opW.assignV (v := .slice none 0 0) rfl ?_)
            refine WL.nil ?_
            refine thenQ_n (hK16 _ _ ?_)
            refine WC.seq (fun K17 hK17 => ?_)
            refine WC.region ?_
            refine WL.op rfl (opW.assignI rfl ?_)
            refine WL.nil ?_
            refine thenQ_n (hK17 _ _ ?_)
            refine WC.seq (fun K18 hK18 => ?_)
            refine WC.seq (fun K19 hK19 => ?_)
            refine WC.region ?_
            refine WL.op rfl (opW.assignI rfl ?_)
            refine WL.nil ?_
            refine thenQ_n (hK19 _ _ ?_)
            refine WC.block ?_
            refine WC.loop (fun m f w => ∃ (k : Nat) (v11 v12 : Value), Fits [(3, .pointer (some ⟨b3, 0, none⟩)), (5, .pointer (some ⟨p, 0, none⟩)), (9, .pointer (some ⟨b9, 0, none⟩)), (11, v11), (12, v12), (13, .int .i64 ((chgF (r.take k) (acc.take k)).length : Int)), (14, .int .i64 (k : Int))] f ∧ St w0 [ownE v11 59 (loadA d (r.take k)), ownE v12 59 (acc.take k), blkE b9 (Enc.enc (outF R r qs (paidA R.fee (loadA d r)) so)) 54, ownE (outF R r qs (paidA R.fee (loadA d r)) so).changed.v 64 (chgF r acc), stE p d2, blkE b3 (Enc.enc R) 41] w ∧ k ≤ r.length ∧ m = r.length - k) (r.length) ?_ ?_
            ·
              exact ⟨0, .slice none 0 0, .slice none 0 0, ⟨rfl, rfl, rfl, rfl, rfl, rfl, rfl, trivial⟩, (show St w0 [ownE (.slice none 0 0) 59 ([] : List Account), ownE (.slice none 0 0) 59 ([] : List Account), blkE b9 (Enc.enc (outF R r qs (paidA R.fee (loadA d r)) so)) 54, ownE (outF R r qs (paidA R.fee (loadA d r)) so).changed.v 64 (chgF r acc), stE p d2, blkE b3 (Enc.enc R) 41] w from (((((((hS.pick (e := blkE b3 (Enc.enc R) 41) (by first | exact .h0 | exact .h1 | exact .h2 | exact .h3 | exact .h4 | exact .h5 | exact .h6 | exact .h7 | exact .h8 | exact .h9 | exact .h10 | exact .h11 | exact .h12 | exact .h13 | exact .h14)).pick (e := stE p d2) (by first | exact .h0 | exact .h1 | exact .h2 | exact .h3 | exact .h4 | exact .h5 | exact .h6 | exact .h7 | exact .h8 | exact .h9 | exact .h10 | exact .h11 | exact .h12 | exact .h13 | exact .h14)).pick (e := ownE (outF R r qs (paidA R.fee (loadA d r)) so).changed.v 64 (chgF r acc)) (by first | exact .h0 | exact .h1 | exact .h2 | exact .h3 | exact .h4 | exact .h5 | exact .h6 | exact .h7 | exact .h8 | exact .h9 | exact .h10 | exact .h11 | exact .h12 | exact .h13 | exact .h14)).pick (e := blkE b9 (Enc.enc (outF R r qs (paidA R.fee (loadA d r)) so)) 54) (by first | exact .h0 | exact .h1 | exact .h2 | exact .h3 | exact .h4 | exact .h5 | exact .h6 | exact .h7 | exact .h8 | exact .h9 | exact .h10 | exact .h11 | exact .h12 | exact .h13 | exact .h14)).sub (by repeat (first | with_reducible exact List.nil_sublist _ | with_reducible exact List.Sublist.refl _ | with_reducible refine List.Sublist.cons₂ _ ?_ | with_reducible refine List.Sublist.cons _ ?_)))).nilOwn 59).nilOwn 59), Nat.zero_le _, rfl⟩
            ·
              rintro m f w ⟨k, v11, v12, hfit, hS, hk0, hm⟩
              refine WC.fits _ hfit (fun g => ?_)
              clear hfit
              refine WC.seq (fun K20 hK20 => ?_)
              refine WC.seq (fun K21 hK21 => ?_)
              refine WC.region ?_
              refine WL.op rfl (opW.moveI rfl ?_)
              refine WL.op rfl (opW.fieldAddrB rfl ?_)
              refine WL.op rfl (opW.loadV rfl (hS.ld1 (b := b3) (cs := Enc.enc R) (by first | exact .h0 | exact .h1 | exact .h2 | exact .h3 | exact .h4 | exact .h5 | exact .h6 | exact .h7 | exact .h8 | exact .h9 | exact .h10 | exact .h11 | exact .h12 | exact .h13 | exact .h14) (Ready.at_roles R)) ?_)
              refine WL.op rfl (opW.lenV rfl ((hR.fr.bel hS.old)) ?_)
              refine WL.op rfl (opW.lss rfl rfl ?_)
              refine WL.nil ?_
              refine thenQ_n (hK21 _ _ ?_)
              refine WC.cond _ rfl (fun hc3 => ?_) (fun hc3 => ?_)
              ·
                have hr3 := hc3
                try simp only [decide_eq_true_eq, decide_eq_false_iff_not, Bool.and_eq_true, Bool.or_eq_true, Bool.and_eq_false_iff, Bool.or_eq_false_iff, Bool.not_eq_true', Bool.not_eq_false', Int.not_lt, Int.not_le] at hc3
                have hkr : k < r.length := by omega
                have hka : k < acc.length := by omega
                have hcl := chgF_len (r.take k) (acc.take k)
                rw [List.length_take] at hcl
                have hakl := loadA_len d (r.take k)
                rw [List.length_take] at hakl
                have htkl : (acc.take k).length ≤ k := by simp; omega
                refine WC.skip ?_
                refine thenQ_n (hK20 _ _ ?_)
                refine WC.seq (fun K22 hK22 => ?_)
                refine WC.block ?_
                refine WC.seq (fun K23 hK23 => ?_)
                refine WC.region ?_
                refine WL.op rfl (opW.moveV (v := .pointer (some ⟨p, 0, none⟩)) rfl ?_)
                refine WL.op rfl (opW.fieldAddrB rfl ?_)
                refine WL.op rfl (opW.loadV rfl (hS.ld1 (b := b3) (cs := Enc.enc R) (by first | exact .h0 | exact .h1 | exact .h2 | exact .h3 | exact .h4 | exact .h5 | exact .h6 | exact .h7 | exact .h8 | exact .h9 | exact .h10 | exact .h11 | exact .h12 | exact .h13 | exact .h14) (Ready.at_roles R)) ?_)
                refine WL.op rfl (opW.moveI rfl ?_)
                refine WL.op rfl (opW.idxV rfl ((hR.fr.bel hS.old)) rfl (by omega) ?_)
                refine WL.op rfl (opW.fieldAddr rfl ((hR.fr.bel hS.old).isP hkr) ?_)
                refine WL.op rfl (opW.loadV rfl (Ld.ptA ((hR.fr.bel hS.old).isPt hkr) 0 (Role.ex_key _) (by rw [Enc.size_eq]; decide)) ?_)
                refine WL.op rfl (opW.call (get13 _ p d2 r[k].key (hS.stAt (by first | exact .h0 | exact .h1 | exact .h2 | exact .h3 | exact .h4 | exact .h5 | exact .h6 | exact .h7 | exact .h8 | exact .h9 | exact .h10 | exact .h11 | exact .h12 | exact .h13 | exact .h14))) rfl ?_)
                rintro _ w ⟨rfl, hw⟩; replace hS := hS.bel hw
                rw [hd2 r[k].key]
                refine WL.op rfl (opW.allocA hS ?_)
                intro b15 w _ hS
                refine WL.op0 (opW.storeE hS rfl rfl (by first | exact .h0 | exact .h1 | exact .h2 | exact .h3 | exact .h4 | exact .h5 | exact .h6 | exact .h7 | exact .h8 | exact .h9 | exact .h10 | exact .h11 | exact .h12 | exact .h13 | exact .h14) (by first | rfl | exact Enc.size_eq _) ?_)
                intro w hS; replace hS := hS _ (by first | exact .h0 | exact .h1 | exact .h2 | exact .h3 | exact .h4 | exact .h5 | exact .h6 | exact .h7 | exact .h8 | exact .h9 | exact .h10 | exact .h11 | exact .h12 | exact .h13 | exact .h14)
                refine WL.nil ?_
                refine thenQ_n (hK23 _ _ ?_)
                refine WC.seq (fun K24 hK24 => ?_)
                refine WC.region ?_
                refine WL.op rfl (opW.moveV (v := v11) rfl ?_)
                refine WL.op rfl (opW.loadV rfl (hS.ldA (b := b15) (cs := Enc.enc (d.get r[k].key)) (by first | exact .h0 | exact .h1 | exact .h2 | exact .h3 | exact .h4 | exact .h5 | exact .h6 | exact .h7 | exact .h8 | exact .h9 | exact .h10 | exact .h11 | exact .h12 | exact .h13 | exact .h14) (Enc.size_eq (d.get r[k].key))) ?_)
                refine WL.op rfl (opW.buildSl hS (([(d.get r[k].key)] : List Account)) [.agg (Enc.enc (d.get r[k].key))] rfl rfl rfl rfl (by decide) ?_)
                intro b82 w hw hS
                refine WL.op rfl (opW.appendOwn (α := Account) (v := v11) (xs := (loadA d (r.take k))) (ys := [(d.get r[k].key)]) rfl hS rfl (by first | exact .h0 | exact .h1 | exact .h2 | exact .h3 | exact .h4 | exact .h5 | exact .h6 | exact .h7 | exact .h8 | exact .h9 | exact .h10 | exact .h11 | exact .h12 | exact .h13 | exact .h14) (hS.sl (v := .slice (some ⟨b82, 0, none⟩) 1 1) (xs := ([(d.get r[k].key)] : List Account)) (by first | exact .h0 | exact .h1 | exact .h2 | exact .h3 | exact .h4 | exact .h5 | exact .h6 | exact .h7 | exact .h8 | exact .h9 | exact .h10 | exact .h11 | exact .h12 | exact .h13 | exact .h14)) (by simp only [List.length_cons, List.length_nil]; omega) (by simp only [maxLen, List.length_cons, List.length_nil]; omega) ?_)
                intro v83 w hS; replace hS := hS _ (by first | exact .h0 | exact .h1 | exact .h2 | exact .h3 | exact .h4 | exact .h5 | exact .h6 | exact .h7 | exact .h8 | exact .h9 | exact .h10 | exact .h11 | exact .h12 | exact .h13 | exact .h14)
                refine WL.op rfl (opW.assignV (v := v83) rfl ?_)
                refine WL.nil ?_
                refine thenQ_n (hK24 _ _ ?_)
                refine WC.seq (fun K25 hK25 => ?_)
                refine WC.seq (fun K26 hK26 => ?_)
                refine WC.region ?_
                refine WL.op rfl (opW.fieldAddrB rfl ?_)
                refine WL.op rfl (opW.loadV rfl (hS.ld1 (b := b3) (cs := Enc.enc R) (by first | exact .h0 | exact .h1 | exact .h2 | exact .h3 | exact .h4 | exact .h5 | exact .h6 | exact .h7 | exact .h8 | exact .h9 | exact .h10 | exact .h11 | exact .h12 | exact .h13 | exact .h14) (Ready.at_roles R)) ?_)
                refine WL.op rfl (opW.moveI rfl ?_)
                refine WL.op rfl (opW.idxV rfl ((hR.fr.bel hS.old)) rfl (by omega) ?_)
                refine WL.op rfl (opW.fieldAddr rfl ((hR.fr.bel hS.old).isP hkr) ?_)
                refine WL.op rfl (opW.loadV rfl (Ld.pt1 ((hR.fr.bel hS.old).isPt hkr) 33 (Role.at_writes _)) ?_)
                refine WL.op rfl (opW.not rfl ?_)
                refine WL.nil ?_
                refine thenQ_n (hK26 _ _ ?_)
                refine WC.cond _ rfl (fun hc4 => ?_) (fun hc4 => ?_)
                ·
                  have hr4 := hc4
                  try simp only [decide_eq_true_eq, decide_eq_false_iff_not, Bool.and_eq_true, Bool.or_eq_true, Bool.and_eq_false_iff, Bool.or_eq_false_iff, Bool.not_eq_true', Bool.not_eq_false', Int.not_lt, Int.not_le] at hc4
                  have hwr : r[k].writes = false := by simpa using hc4
                  refine WC.seq (fun K27 hK27 => ?_)
                  refine WC.region ?_
                  refine WL.op rfl (opW.moveV (v := v12) rfl ?_)
                  refine WL.op rfl (opW.loadV rfl (hS.ldA (b := b15) (cs := Enc.enc (d.get r[k].key)) (by first | exact .h0 | exact .h1 | exact .h2 | exact .h3 | exact .h4 | exact .h5 | exact .h6 | exact .h7 | exact .h8 | exact .h9 | exact .h10 | exact .h11 | exact .h12 | exact .h13 | exact .h14) (Enc.size_eq (d.get r[k].key))) ?_)
                  refine WL.op rfl (opW.buildSl hS (([(d.get r[k].key)] : List Account)) [.agg (Enc.enc (d.get r[k].key))] rfl rfl rfl rfl (by decide) ?_)
                  intro b93 w hw hS
                  refine WL.op rfl (opW.appendOwn (α := Account) (v := v12) (xs := (acc.take k)) (ys := [(d.get r[k].key)]) rfl hS rfl (by first | exact .h0 | exact .h1 | exact .h2 | exact .h3 | exact .h4 | exact .h5 | exact .h6 | exact .h7 | exact .h8 | exact .h9 | exact .h10 | exact .h11 | exact .h12 | exact .h13 | exact .h14) (hS.sl (v := .slice (some ⟨b93, 0, none⟩) 1 1) (xs := ([(d.get r[k].key)] : List Account)) (by first | exact .h0 | exact .h1 | exact .h2 | exact .h3 | exact .h4 | exact .h5 | exact .h6 | exact .h7 | exact .h8 | exact .h9 | exact .h10 | exact .h11 | exact .h12 | exact .h13 | exact .h14)) (by simp only [List.length_cons, List.length_nil]; omega) (by simp only [maxLen, List.length_cons, List.length_nil]; omega) ?_)
                  intro v94 w hS; replace hS := hS _ (by first | exact .h0 | exact .h1 | exact .h2 | exact .h3 | exact .h4 | exact .h5 | exact .h6 | exact .h7 | exact .h8 | exact .h9 | exact .h10 | exact .h11 | exact .h12 | exact .h13 | exact .h14)
                  refine WL.op rfl (opW.assignV (v := v94) rfl ?_)
                  refine WL.nil ?_
                  refine thenQ_n (hK27 _ _ ?_)
                  refine WC.exit ?_
                  refine thenQ_e ?_
                  refine blockQ_hit ?_
                  refine thenQ_n (hK22 _ _ ?_)
                  refine WC.region ?_
                  refine WL.op rfl (opW.moveI rfl ?_)
                  refine WL.op rfl (opW.add rfl rfl (wrap_i64 (by omega)) ?_)
                  refine WL.op rfl (opW.assignI rfl ?_)
                  refine WL.nil ?_
                  refine thenQ_n ?_
                  rw [← loadA_take hkr] at hS
                  first
                    | (have hst := chgF_step (r := r) (l := acc) hkr hka
                       rw [if_neg (by rw [hwr]; decide), List.append_nil] at hst
                       rw [← hsame k hkr hka hwr, ← List.take_succ_eq_append_getElem hka] at hS
                       exact ⟨r.length - (k + 1), by omega, k + 1, v83, v94, ⟨rfl, rfl, rfl, rfl, rfl, by rw [hst]; rfl, congrArg (Value.int .i64) (by omega), trivial⟩, (((((((hS.pick (e := blkE b3 (Enc.enc R) 41) (by first | exact .h0 | exact .h1 | exact .h2 | exact .h3 | exact .h4 | exact .h5 | exact .h6 | exact .h7 | exact .h8 | exact .h9 | exact .h10 | exact .h11 | exact .h12 | exact .h13 | exact .h14)).pick (e := stE p d2) (by first | exact .h0 | exact .h1 | exact .h2 | exact .h3 | exact .h4 | exact .h5 | exact .h6 | exact .h7 | exact .h8 | exact .h9 | exact .h10 | exact .h11 | exact .h12 | exact .h13 | exact .h14)).pick (e := ownE (outF R r qs (paidA R.fee (loadA d r)) so).changed.v 64 (chgF r acc)) (by first | exact .h0 | exact .h1 | exact .h2 | exact .h3 | exact .h4 | exact .h5 | exact .h6 | exact .h7 | exact .h8 | exact .h9 | exact .h10 | exact .h11 | exact .h12 | exact .h13 | exact .h14)).pick (e := blkE b9 (Enc.enc (outF R r qs (paidA R.fee (loadA d r)) so)) 54) (by first | exact .h0 | exact .h1 | exact .h2 | exact .h3 | exact .h4 | exact .h5 | exact .h6 | exact .h7 | exact .h8 | exact .h9 | exact .h10 | exact .h11 | exact .h12 | exact .h13 | exact .h14)).pick (e := ownE v94 59 (acc.take (k + 1))) (by first | exact .h0 | exact .h1 | exact .h2 | exact .h3 | exact .h4 | exact .h5 | exact .h6 | exact .h7 | exact .h8 | exact .h9 | exact .h10 | exact .h11 | exact .h12 | exact .h13 | exact .h14)).pick (e := ownE v83 59 (loadA d (r.take (k + 1)))) (by first | exact .h0 | exact .h1 | exact .h2 | exact .h3 | exact .h4 | exact .h5 | exact .h6 | exact .h7 | exact .h8 | exact .h9 | exact .h10 | exact .h11 | exact .h12 | exact .h13 | exact .h14)).sub (by repeat (first | with_reducible exact List.nil_sublist _ | with_reducible exact List.Sublist.refl _ | with_reducible refine List.Sublist.cons₂ _ ?_ | with_reducible refine List.Sublist.cons _ ?_))), by omega, rfl⟩)
                    | (have hst := chgF_step (r := r) (l := acc) hkr hka
                       rw [if_pos hwr] at hst
                       have hst2 : (chgF (r.take (k + 1)) (acc.take (k + 1))).length = (chgF (r.take k) (acc.take k)).length + 1 := by rw [hst]; simp
                       rw [← List.take_succ_eq_append_getElem hka] at hS
                       exact ⟨r.length - (k + 1), by omega, k + 1, v83, v123, ⟨rfl, rfl, rfl, rfl, rfl, congrArg (Value.int .i64) (by rw [hst2]; omega), congrArg (Value.int .i64) (by omega), trivial⟩, (((((((hS.pick (e := blkE b3 (Enc.enc R) 41) (by first | exact .h0 | exact .h1 | exact .h2 | exact .h3 | exact .h4 | exact .h5 | exact .h6 | exact .h7 | exact .h8 | exact .h9 | exact .h10 | exact .h11 | exact .h12 | exact .h13 | exact .h14)).pick (e := stE p d2) (by first | exact .h0 | exact .h1 | exact .h2 | exact .h3 | exact .h4 | exact .h5 | exact .h6 | exact .h7 | exact .h8 | exact .h9 | exact .h10 | exact .h11 | exact .h12 | exact .h13 | exact .h14)).pick (e := ownE (outF R r qs (paidA R.fee (loadA d r)) so).changed.v 64 (chgF r acc)) (by first | exact .h0 | exact .h1 | exact .h2 | exact .h3 | exact .h4 | exact .h5 | exact .h6 | exact .h7 | exact .h8 | exact .h9 | exact .h10 | exact .h11 | exact .h12 | exact .h13 | exact .h14)).pick (e := blkE b9 (Enc.enc (outF R r qs (paidA R.fee (loadA d r)) so)) 54) (by first | exact .h0 | exact .h1 | exact .h2 | exact .h3 | exact .h4 | exact .h5 | exact .h6 | exact .h7 | exact .h8 | exact .h9 | exact .h10 | exact .h11 | exact .h12 | exact .h13 | exact .h14)).pick (e := ownE v123 59 (acc.take (k + 1))) (by first | exact .h0 | exact .h1 | exact .h2 | exact .h3 | exact .h4 | exact .h5 | exact .h6 | exact .h7 | exact .h8 | exact .h9 | exact .h10 | exact .h11 | exact .h12 | exact .h13 | exact .h14)).pick (e := ownE v83 59 (loadA d (r.take (k + 1)))) (by first | exact .h0 | exact .h1 | exact .h2 | exact .h3 | exact .h4 | exact .h5 | exact .h6 | exact .h7 | exact .h8 | exact .h9 | exact .h10 | exact .h11 | exact .h12 | exact .h13 | exact .h14)).sub (by repeat (first | with_reducible exact List.nil_sublist _ | with_reducible exact List.Sublist.refl _ | with_reducible refine List.Sublist.cons₂ _ ?_ | with_reducible refine List.Sublist.cons _ ?_))), by omega, rfl⟩)
                ·
                  have hr4 := hc4
                  try simp only [decide_eq_true_eq, decide_eq_false_iff_not, Bool.and_eq_true, Bool.or_eq_true, Bool.and_eq_false_iff, Bool.or_eq_false_iff, Bool.not_eq_true', Bool.not_eq_false', Int.not_lt, Int.not_le] at hc4
                  have hwr : r[k].writes = true := by simpa using hc4
                  obtain ⟨hgl, hge⟩ := chgF_get hkr hka hwr
                  refine WC.skip ?_
                  refine thenQ_n (hK25 _ _ ?_)
                  refine WC.seq (fun K28 hK28 => ?_)
                  refine WC.seq (fun K29 hK29 => ?_)
                  refine WC.draw 20 (.look 0 (.look 1 (.look 2 (.look 3 (.look 4 (.look 5 (.look 6 (.look 7 (.look 8 (.look 9 (.look 10 (.look 11 (.look 12 (.look 13 (.look 14 (.look 15 (.look 16 (.look 17 (.look 18 (.look 19 .nil)))))))))))))))))))) (by kernel_rfl) (fun _ _ _ h => h) (fun w1 hw1 => ?_)
                  replace hS := hS.bel hw1
                  have hS1 := hS
                  have hT := St.start w1
                  refine ML.look rfl rfl rfl (fun w hw => (by have hS := hS1.bel hw; exact opW.moveI rfl ⟨rfl, rfl⟩)) ?_
                  refine ML.look rfl rfl rfl (fun w hw => (by have hS := hS1.bel hw; exact opW.fieldAddrB rfl ⟨rfl, rfl⟩)) ?_
                  refine ML.look rfl rfl rfl (fun w hw => (by have hS := hS1.bel hw; exact opW.loadV rfl (hS.ld1 (b := b9) (cs := Enc.enc (outF R r qs (paidA R.fee (loadA d r)) so)) (by first | exact .h0 | exact .h1 | exact .h2 | exact .h3 | exact .h4 | exact .h5 | exact .h6 | exact .h7 | exact .h8 | exact .h9 | exact .h10 | exact .h11 | exact .h12 | exact .h13 | exact .h14) (Outcome.at_changed (outF R r qs (paidA R.fee (loadA d r)) so))) ⟨rfl, rfl⟩)) ?_
                  refine ML.look rfl rfl rfl (fun w hw => (by have hS := hS1.bel hw; exact opW.lenV rfl ((hS.sl (v := (outF R r qs (paidA R.fee (loadA d r)) so).changed.v) (xs := (chgF r acc)) (by first | exact .h0 | exact .h1 | exact .h2 | exact .h3 | exact .h4 | exact .h5 | exact .h6 | exact .h7 | exact .h8 | exact .h9 | exact .h10 | exact .h11 | exact .h12 | exact .h13 | exact .h14))) ⟨rfl, rfl⟩)) ?_
                  refine ML.look rfl rfl rfl (fun w hw => (by have hS := hS1.bel hw; exact opW.boolF (decide_eq_false (by omega)) (opW.geq rfl rfl ⟨rfl, rfl⟩) ⟨rfl, rfl⟩)) ?_
                  refine ML.look rfl rfl rfl (fun w hw => (by have hS := hS1.bel hw; exact opW.moveB rfl ⟨rfl, rfl⟩)) ?_
                  refine ML.lookT 100 rfl rfl rfl rfl rfl rfl (fun w hw => (by have hS := hS1.bel hw; exact opW.fieldAddrB rfl ⟨rfl, rfl⟩)) ?_
                  refine ML.lookT 100 rfl rfl rfl rfl rfl rfl (fun w hw => (by have hS := hS1.bel hw; exact opW.loadV rfl (hS.ld1 (b := b9) (cs := Enc.enc (outF R r qs (paidA R.fee (loadA d r)) so)) (by first | exact .h0 | exact .h1 | exact .h2 | exact .h3 | exact .h4 | exact .h5 | exact .h6 | exact .h7 | exact .h8 | exact .h9 | exact .h10 | exact .h11 | exact .h12 | exact .h13 | exact .h14) (Outcome.at_changed (outF R r qs (paidA R.fee (loadA d r)) so))) ⟨rfl, rfl⟩)) ?_
                  refine ML.lookT 100 rfl rfl rfl rfl rfl rfl (fun w hw => (by have hS := hS1.bel hw; exact opW.moveI rfl ⟨rfl, rfl⟩)) ?_
                  refine ML.lookT 100 rfl rfl rfl rfl rfl rfl (fun w hw => (by have hS := hS1.bel hw; exact opW.idxV rfl ((hS.sl (v := (outF R r qs (paidA R.fee (loadA d r)) so).changed.v) (xs := (chgF r acc)) (by first | exact .h0 | exact .h1 | exact .h2 | exact .h3 | exact .h4 | exact .h5 | exact .h6 | exact .h7 | exact .h8 | exact .h9 | exact .h10 | exact .h11 | exact .h12 | exact .h13 | exact .h14))) rfl (by omega) ⟨rfl, rfl⟩)) ?_
                  refine ML.lookT 100 rfl rfl rfl rfl rfl rfl (fun w hw => (by have hS := hS1.bel hw; exact opW.fieldAddr rfl ((hS.sl (v := (outF R r qs (paidA R.fee (loadA d r)) so).changed.v) (xs := (chgF r acc)) (by first | exact .h0 | exact .h1 | exact .h2 | exact .h3 | exact .h4 | exact .h5 | exact .h6 | exact .h7 | exact .h8 | exact .h9 | exact .h10 | exact .h11 | exact .h12 | exact .h13 | exact .h14)).isP hgl) ⟨rfl, rfl⟩)) ?_
                  refine ML.lookT 100 rfl rfl rfl rfl rfl rfl (fun w hw => (by have hS := hS1.bel hw; exact opW.loadV rfl ((show Ld _ _ _ (ptrAdd (elemP (outF R r qs (paidA R.fee (loadA d r)) so).changed.v (chgF (r.take k) (acc.take k)).length (Enc.sz Holding)) 0) (.agg (Enc.enc r[k].key)) from Ld.ptA ((hS.sl (v := (outF R r qs (paidA R.fee (loadA d r)) so).changed.v) (xs := (chgF r acc)) (by first | exact .h0 | exact .h1 | exact .h2 | exact .h3 | exact .h4 | exact .h5 | exact .h6 | exact .h7 | exact .h8 | exact .h9 | exact .h10 | exact .h11 | exact .h12 | exact .h13 | exact .h14)).isPt hgl) 0 (by rw [hge]; exact Holding.ex_key (⟨r[k].key, acc[k]⟩ : Holding)) (by rw [Enc.size_eq]; decide))) ⟨rfl, rfl⟩)) ?_
                  refine ML.lookT 100 rfl rfl rfl rfl rfl rfl (fun w hw => (by have hS := hS1.bel hw; exact opW.fieldAddrB rfl ⟨rfl, rfl⟩)) ?_
                  refine ML.lookT 100 rfl rfl rfl rfl rfl rfl (fun w hw => (by have hS := hS1.bel hw; exact opW.loadV rfl (hS.ld1 (b := b3) (cs := Enc.enc R) (by first | exact .h0 | exact .h1 | exact .h2 | exact .h3 | exact .h4 | exact .h5 | exact .h6 | exact .h7 | exact .h8 | exact .h9 | exact .h10 | exact .h11 | exact .h12 | exact .h13 | exact .h14) (Ready.at_roles R)) ⟨rfl, rfl⟩)) ?_
                  refine ML.lookT 100 rfl rfl rfl rfl rfl rfl (fun w hw => (by have hS := hS1.bel hw; exact opW.moveI rfl ⟨rfl, rfl⟩)) ?_
                  refine ML.lookT 100 rfl rfl rfl rfl rfl rfl (fun w hw => (by have hS := hS1.bel hw; exact opW.idxV rfl ((hR.fr.bel hS.old)) rfl (by omega) ⟨rfl, rfl⟩)) ?_
                  refine ML.lookT 100 rfl rfl rfl rfl rfl rfl (fun w hw => (by have hS := hS1.bel hw; exact opW.fieldAddr rfl ((hR.fr.bel hS.old).isP hkr) ⟨rfl, rfl⟩)) ?_
                  refine ML.lookT 100 rfl rfl rfl rfl rfl rfl (fun w hw => (by have hS := hS1.bel hw; exact opW.loadV rfl (Ld.ptA ((hR.fr.bel hS.old).isPt hkr) 0 (Role.ex_key _) (by rw [Enc.size_eq]; decide)) ⟨rfl, rfl⟩)) ?_
                  refine ML.lookT 100 rfl rfl rfl rfl rfl rfl (fun w hw => (by have hS := hS1.bel hw; exact opW.boolF (by rw [decide_eq_true rfl]; rfl) (opW.neqE rfl rfl ⟨rfl, rfl⟩) ⟨rfl, rfl⟩)) ?_
                  refine ML.look rfl rfl rfl (fun w hw => (by have hS := hS1.bel hw; exact opW.pickT rfl rfl ⟨rfl, rfl⟩)) ?_
                  refine ML.nil ?_
                  refine thenQ_n (hK29 _ _ ?_)
                  refine WC.cond _ rfl (fun hc5 => ?_) (fun hc5 => ?_)
                  ·
                    have hr5 := hc5
                    try simp only [decide_eq_true_eq, decide_eq_false_iff_not, Bool.and_eq_true, Bool.or_eq_true, Bool.and_eq_false_iff, Bool.or_eq_false_iff, Bool.not_eq_true', Bool.not_eq_false', Int.not_lt, Int.not_le] at hc5
                    cases hr5
                  ·
                    have hr5 := hc5
                    try simp only [decide_eq_true_eq, decide_eq_false_iff_not, Bool.and_eq_true, Bool.or_eq_true, Bool.and_eq_false_iff, Bool.or_eq_false_iff, Bool.not_eq_true', Bool.not_eq_false', Int.not_lt, Int.not_le] at hc5
                    refine WC.skip ?_
                    refine thenQ_n (hK28 _ _ ?_)
                    refine WC.seq (fun K30 hK30 => ?_)
                    refine WC.region ?_
                    refine WL.op rfl (opW.moveV (v := v12) rfl ?_)
                    refine WL.op rfl (opW.fieldAddrB rfl ?_)
                    refine WL.op rfl (opW.loadV rfl (hS.ld1 (b := b9) (cs := Enc.enc (outF R r qs (paidA R.fee (loadA d r)) so)) (by first | exact .h0 | exact .h1 | exact .h2 | exact .h3 | exact .h4 | exact .h5 | exact .h6 | exact .h7 | exact .h8 | exact .h9 | exact .h10 | exact .h11 | exact .h12 | exact .h13 | exact .h14) (Outcome.at_changed (outF R r qs (paidA R.fee (loadA d r)) so))) ?_)
                    refine WL.op rfl (opW.moveI rfl ?_)
                    refine WL.op rfl (opW.idxV rfl ((hS.sl (v := (outF R r qs (paidA R.fee (loadA d r)) so).changed.v) (xs := (chgF r acc)) (by first | exact .h0 | exact .h1 | exact .h2 | exact .h3 | exact .h4 | exact .h5 | exact .h6 | exact .h7 | exact .h8 | exact .h9 | exact .h10 | exact .h11 | exact .h12 | exact .h13 | exact .h14))) rfl (by omega) ?_)
                    refine WL.op rfl (opW.fieldAddr rfl ((hS.sl (v := (outF R r qs (paidA R.fee (loadA d r)) so).changed.v) (xs := (chgF r acc)) (by first | exact .h0 | exact .h1 | exact .h2 | exact .h3 | exact .h4 | exact .h5 | exact .h6 | exact .h7 | exact .h8 | exact .h9 | exact .h10 | exact .h11 | exact .h12 | exact .h13 | exact .h14)).isP hgl) ?_)
                    refine WL.op rfl (opW.loadV rfl ((show Ld _ _ _ (ptrAdd (elemP (outF R r qs (paidA R.fee (loadA d r)) so).changed.v (chgF (r.take k) (acc.take k)).length (Enc.sz Holding)) 32) (.agg (Enc.enc acc[k])) from Ld.ptA ((hS.sl (v := (outF R r qs (paidA R.fee (loadA d r)) so).changed.v) (xs := (chgF r acc)) (by first | exact .h0 | exact .h1 | exact .h2 | exact .h3 | exact .h4 | exact .h5 | exact .h6 | exact .h7 | exact .h8 | exact .h9 | exact .h10 | exact .h11 | exact .h12 | exact .h13 | exact .h14)).isPt hgl) 32 (by rw [hge]; exact Holding.ex_account (⟨r[k].key, acc[k]⟩ : Holding)) (by rw [Enc.size_eq]; decide))) ?_)
                    refine WL.op rfl (opW.buildSl hS (([acc[k]] : List Account)) [.agg (Enc.enc acc[k])] rfl rfl rfl rfl (by decide) ?_)
                    intro b122 w hw hS
                    refine WL.op rfl (opW.appendOwn (α := Account) (v := v12) (xs := (acc.take k)) (ys := [acc[k]]) rfl hS rfl (by first | exact .h0 | exact .h1 | exact .h2 | exact .h3 | exact .h4 | exact .h5 | exact .h6 | exact .h7 | exact .h8 | exact .h9 | exact .h10 | exact .h11 | exact .h12 | exact .h13 | exact .h14) (hS.sl (v := .slice (some ⟨b122, 0, none⟩) 1 1) (xs := ([acc[k]] : List Account)) (by first | exact .h0 | exact .h1 | exact .h2 | exact .h3 | exact .h4 | exact .h5 | exact .h6 | exact .h7 | exact .h8 | exact .h9 | exact .h10 | exact .h11 | exact .h12 | exact .h13 | exact .h14)) (by simp only [List.length_cons, List.length_nil]; omega) (by simp only [maxLen, List.length_cons, List.length_nil]; omega) ?_)
                    intro v123 w hS; replace hS := hS _ (by first | exact .h0 | exact .h1 | exact .h2 | exact .h3 | exact .h4 | exact .h5 | exact .h6 | exact .h7 | exact .h8 | exact .h9 | exact .h10 | exact .h11 | exact .h12 | exact .h13 | exact .h14)
                    refine WL.op rfl (opW.assignV (v := v123) rfl ?_)
                    refine WL.nil ?_
                    refine thenQ_n (hK30 _ _ ?_)
                    refine WC.region ?_
                    refine WL.op rfl (opW.moveI rfl ?_)
                    refine WL.op rfl (opW.add rfl rfl (wrap_i64 (by omega)) ?_)
                    refine WL.op rfl (opW.assignI rfl ?_)
                    refine WL.nil ?_
                    refine blockQ_n ?_
                    refine thenQ_n (hK22 _ _ ?_)
                    refine WC.region ?_
                    refine WL.op rfl (opW.moveI rfl ?_)
                    refine WL.op rfl (opW.add rfl rfl (wrap_i64 (by omega)) ?_)
                    refine WL.op rfl (opW.assignI rfl ?_)
                    refine WL.nil ?_
                    refine thenQ_n ?_
                    rw [← loadA_take hkr] at hS
                    first
                      | (have hst := chgF_step (r := r) (l := acc) hkr hka
                         rw [if_neg (by rw [hwr]; decide), List.append_nil] at hst
                         rw [← hsame k hkr hka hwr, ← List.take_succ_eq_append_getElem hka] at hS
                         exact ⟨r.length - (k + 1), by omega, k + 1, v83, v94, ⟨rfl, rfl, rfl, rfl, rfl, by rw [hst]; rfl, congrArg (Value.int .i64) (by omega), trivial⟩, (((((((hS.pick (e := blkE b3 (Enc.enc R) 41) (by first | exact .h0 | exact .h1 | exact .h2 | exact .h3 | exact .h4 | exact .h5 | exact .h6 | exact .h7 | exact .h8 | exact .h9 | exact .h10 | exact .h11 | exact .h12 | exact .h13 | exact .h14)).pick (e := stE p d2) (by first | exact .h0 | exact .h1 | exact .h2 | exact .h3 | exact .h4 | exact .h5 | exact .h6 | exact .h7 | exact .h8 | exact .h9 | exact .h10 | exact .h11 | exact .h12 | exact .h13 | exact .h14)).pick (e := ownE (outF R r qs (paidA R.fee (loadA d r)) so).changed.v 64 (chgF r acc)) (by first | exact .h0 | exact .h1 | exact .h2 | exact .h3 | exact .h4 | exact .h5 | exact .h6 | exact .h7 | exact .h8 | exact .h9 | exact .h10 | exact .h11 | exact .h12 | exact .h13 | exact .h14)).pick (e := blkE b9 (Enc.enc (outF R r qs (paidA R.fee (loadA d r)) so)) 54) (by first | exact .h0 | exact .h1 | exact .h2 | exact .h3 | exact .h4 | exact .h5 | exact .h6 | exact .h7 | exact .h8 | exact .h9 | exact .h10 | exact .h11 | exact .h12 | exact .h13 | exact .h14)).pick (e := ownE v94 59 (acc.take (k + 1))) (by first | exact .h0 | exact .h1 | exact .h2 | exact .h3 | exact .h4 | exact .h5 | exact .h6 | exact .h7 | exact .h8 | exact .h9 | exact .h10 | exact .h11 | exact .h12 | exact .h13 | exact .h14)).pick (e := ownE v83 59 (loadA d (r.take (k + 1)))) (by first | exact .h0 | exact .h1 | exact .h2 | exact .h3 | exact .h4 | exact .h5 | exact .h6 | exact .h7 | exact .h8 | exact .h9 | exact .h10 | exact .h11 | exact .h12 | exact .h13 | exact .h14)).sub (by repeat (first | with_reducible exact List.nil_sublist _ | with_reducible exact List.Sublist.refl _ | with_reducible refine List.Sublist.cons₂ _ ?_ | with_reducible refine List.Sublist.cons _ ?_))), by omega, rfl⟩)
                      | (have hst := chgF_step (r := r) (l := acc) hkr hka
                         rw [if_pos hwr] at hst
                         have hst2 : (chgF (r.take (k + 1)) (acc.take (k + 1))).length = (chgF (r.take k) (acc.take k)).length + 1 := by rw [hst]; simp
                         rw [← List.take_succ_eq_append_getElem hka] at hS
                         exact ⟨r.length - (k + 1), by omega, k + 1, v83, v123, ⟨rfl, rfl, rfl, rfl, rfl, congrArg (Value.int .i64) (by rw [hst2]; omega), congrArg (Value.int .i64) (by omega), trivial⟩, (((((((hS.pick (e := blkE b3 (Enc.enc R) 41) (by first | exact .h0 | exact .h1 | exact .h2 | exact .h3 | exact .h4 | exact .h5 | exact .h6 | exact .h7 | exact .h8 | exact .h9 | exact .h10 | exact .h11 | exact .h12 | exact .h13 | exact .h14)).pick (e := stE p d2) (by first | exact .h0 | exact .h1 | exact .h2 | exact .h3 | exact .h4 | exact .h5 | exact .h6 | exact .h7 | exact .h8 | exact .h9 | exact .h10 | exact .h11 | exact .h12 | exact .h13 | exact .h14)).pick (e := ownE (outF R r qs (paidA R.fee (loadA d r)) so).changed.v 64 (chgF r acc)) (by first | exact .h0 | exact .h1 | exact .h2 | exact .h3 | exact .h4 | exact .h5 | exact .h6 | exact .h7 | exact .h8 | exact .h9 | exact .h10 | exact .h11 | exact .h12 | exact .h13 | exact .h14)).pick (e := blkE b9 (Enc.enc (outF R r qs (paidA R.fee (loadA d r)) so)) 54) (by first | exact .h0 | exact .h1 | exact .h2 | exact .h3 | exact .h4 | exact .h5 | exact .h6 | exact .h7 | exact .h8 | exact .h9 | exact .h10 | exact .h11 | exact .h12 | exact .h13 | exact .h14)).pick (e := ownE v123 59 (acc.take (k + 1))) (by first | exact .h0 | exact .h1 | exact .h2 | exact .h3 | exact .h4 | exact .h5 | exact .h6 | exact .h7 | exact .h8 | exact .h9 | exact .h10 | exact .h11 | exact .h12 | exact .h13 | exact .h14)).pick (e := ownE v83 59 (loadA d (r.take (k + 1)))) (by first | exact .h0 | exact .h1 | exact .h2 | exact .h3 | exact .h4 | exact .h5 | exact .h6 | exact .h7 | exact .h8 | exact .h9 | exact .h10 | exact .h11 | exact .h12 | exact .h13 | exact .h14)).sub (by repeat (first | with_reducible exact List.nil_sublist _ | with_reducible exact List.Sublist.refl _ | with_reducible refine List.Sublist.cons₂ _ ?_ | with_reducible refine List.Sublist.cons _ ?_))), by omega, rfl⟩)
              ·
                have hr3 := hc3
                try simp only [decide_eq_true_eq, decide_eq_false_iff_not, Bool.and_eq_true, Bool.or_eq_true, Bool.and_eq_false_iff, Bool.or_eq_false_iff, Bool.not_eq_true', Bool.not_eq_false', Int.not_lt, Int.not_le] at hc3
                have hkk : k = r.length := by omega
                subst hkk
                rw [List.take_length, List.take_of_length_le (l := acc) (by omega)] at hS
                refine WC.exit ?_
                refine thenQ_e ?_
                refine thenQ_e ?_
                refine blockQ_hit ?_
                refine thenQ_n (hK18 _ _ ?_)
                refine WC.seq (fun K31 hK31 => ?_)
                refine WC.region ?_
                refine WL.op rfl (opW.moveV (v := v12) rfl ?_)
                refine WL.op rfl (opW.fieldAddrB rfl ?_)
                refine WL.op rfl (opW.loadV rfl (hS.ld1 (b := b3) (cs := Enc.enc R) (by first | exact .h0 | exact .h1 | exact .h2 | exact .h3 | exact .h4 | exact .h5 | exact .h6 | exact .h7 | exact .h8 | exact .h9 | exact .h10 | exact .h11 | exact .h12 | exact .h13 | exact .h14) (Ready.at_fee R)) ?_)
                refine WL.op rfl (opW.buildE (r := (⟨R.fee, vz 32, 0⟩ : Account)) (ps := Account.parts (⟨R.fee, vz 32, 0⟩ : Account)) (Account.enc_eq _) (by exact accParts R.fee) (by exact fitO ⟨by decide, rfl, trivial⟩) ?_)
                refine WL.op rfl (opW.buildSl hS (([(⟨R.fee, vz 32, 0⟩ : Account)] : List Account)) [.agg (Enc.enc (⟨R.fee, vz 32, 0⟩ : Account))] rfl rfl rfl rfl (by decide) ?_)
                intro b130 w hw hS
                refine WL.op rfl (opW.appendOwn (α := Account) (v := v12) (xs := acc) (ys := [(⟨R.fee, vz 32, 0⟩ : Account)]) rfl hS rfl (by first | exact .h0 | exact .h1 | exact .h2 | exact .h3 | exact .h4 | exact .h5 | exact .h6 | exact .h7 | exact .h8 | exact .h9 | exact .h10 | exact .h11 | exact .h12 | exact .h13 | exact .h14) (hS.sl (v := .slice (some ⟨b130, 0, none⟩) 1 1) (xs := ([(⟨R.fee, vz 32, 0⟩ : Account)] : List Account)) (by first | exact .h0 | exact .h1 | exact .h2 | exact .h3 | exact .h4 | exact .h5 | exact .h6 | exact .h7 | exact .h8 | exact .h9 | exact .h10 | exact .h11 | exact .h12 | exact .h13 | exact .h14)) (by simp only [List.length_cons, List.length_nil]; omega) (by simp only [maxLen, List.length_cons, List.length_nil]; omega) ?_)
                intro v131 w hS; replace hS := hS _ (by first | exact .h0 | exact .h1 | exact .h2 | exact .h3 | exact .h4 | exact .h5 | exact .h6 | exact .h7 | exact .h8 | exact .h9 | exact .h10 | exact .h11 | exact .h12 | exact .h13 | exact .h14)
                refine WL.op rfl (opW.assignV (v := v131) rfl ?_)
                refine WL.nil ?_
                refine thenQ_n (hK31 _ _ ?_)
                refine WC.seq (fun K32 hK32 => ?_)
                refine WC.region ?_
                refine WL.op rfl (opW.moveI rfl ?_)
                refine WL.op rfl (opW.fieldAddrB rfl ?_)
                refine WL.op rfl (opW.loadV rfl (hS.ld1 (b := b9) (cs := Enc.enc (outF R r qs (paidA R.fee (loadA d r)) so)) (by first | exact .h0 | exact .h1 | exact .h2 | exact .h3 | exact .h4 | exact .h5 | exact .h6 | exact .h7 | exact .h8 | exact .h9 | exact .h10 | exact .h11 | exact .h12 | exact .h13 | exact .h14) (Outcome.at_changed (outF R r qs (paidA R.fee (loadA d r)) so))) ?_)
                refine WL.op rfl (opW.lenV rfl ((hS.sl (v := (outF R r qs (paidA R.fee (loadA d r)) so).changed.v) (xs := (chgF r acc)) (by first | exact .h0 | exact .h1 | exact .h2 | exact .h3 | exact .h4 | exact .h5 | exact .h6 | exact .h7 | exact .h8 | exact .h9 | exact .h10 | exact .h11 | exact .h12 | exact .h13 | exact .h14))) ?_)
                refine WL.op rfl (opW.boolT (decide_eq_true (by rw [List.take_length, List.take_of_length_le (l := acc) (by omega)])) (opW.eql rfl rfl ⟨rfl, rfl⟩) ?_)
                refine WL.op rfl (opW.moveB rfl ?_)
                refine WL.gT 137 rfl rfl rfl (WL.op rfl (opW.moveV (v := v11) rfl ?_))
                refine WL.gT 137 rfl rfl rfl (WL.op rfl (opW.call (total15 _ v11 (loadA d r) (hS.sl (v := v11) (xs := (loadA d r)) (by first | exact .h0 | exact .h1 | exact .h2 | exact .h3 | exact .h4 | exact .h5 | exact .h6 | exact .h7 | exact .h8 | exact .h9 | exact .h10 | exact .h11 | exact .h12 | exact .h13 | exact .h14)) hAw (by omega)) rfl ?_))
                rintro _ w ⟨rfl, hw⟩; replace hS := hS.bel hw
                refine WL.gT 137 rfl rfl rfl (WL.op rfl (opW.moveV (v := v131) rfl ?_))
                refine WL.gT 137 rfl rfl rfl (WL.op rfl (opW.call (total15 _ v131 (acc ++ [(⟨R.fee, vz 32, 0⟩ : Account)]) (hS.sl (v := v131) (xs := acc ++ [(⟨R.fee, vz 32, 0⟩ : Account)]) (by first | exact .h0 | exact .h1 | exact .h2 | exact .h3 | exact .h4 | exact .h5 | exact .h6 | exact .h7 | exact .h8 | exact .h9 | exact .h10 | exact .h11 | exact .h12 | exact .h13 | exact .h14)) haw (by simp; omega)) rfl ?_))
                rintro _ w ⟨rfl, hw⟩; replace hS := hS.bel hw
                refine WL.gT 137 rfl rfl rfl (WL.op rfl (opW.boolT (by rw [hsum]; exact decide_eq_true rfl) (opW.eqlE rfl rfl ⟨rfl, rfl⟩) ?_))
                refine WL.op rfl (opW.pickT rfl rfl ?_)
                refine WL.op rfl (opW.moveB rfl ?_)
                refine WL.gT 144 rfl rfl rfl (WL.op rfl (opW.call (lives15 _ (hg.bel hS.old)) rfl ?_))
                rintro _ w ⟨rfl, hw⟩; replace hS := hS.bel hw
                refine WL.op rfl (opW.pickT rfl rfl ?_)
                refine WL.op rfl (opW.assignB rfl ?_)
                refine WL.nil ?_
                refine thenQ_n (hK32 _ _ ?_)
                refine WC.ret ?_
                refine bodyQ_ret (.tmpB rfl .nil) ?_
                exact ⟨rfl, hS.old⟩

end Go.Fer
