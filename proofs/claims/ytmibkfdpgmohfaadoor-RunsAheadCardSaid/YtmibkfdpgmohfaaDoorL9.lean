/- RunsAhead -/
import Derived.Test.YtmibkfdpgmohfaaDoorL8
set_option linter.all false
namespace Go.Fer
open Go Go.Proofs Go.RowKit

theorem Ready.flat_eq (y : Ready) : Enc.enc y = joinA ([#[y.bytes.v], #[y.tx.sigs.v], #[.bool y.tx.m.v0], Enc.enc y.tx.m.header, #[y.tx.m.keys.v], Enc.enc y.tx.m.recent] ++ #[y.tx.m.instrs.v] :: [#[y.tx.m.lookups.v], #[y.roles.v], Enc.enc y.budget, #[.int .u64 (y.fee : Int)], #[.int .u64 (y.cost : Int)], #[.int .u64 (y.priority : Int)]]) := by
  rw [Ready.enc_eq]
  unfold Ready.parts
  rw [Tx.enc_eq]
  unfold Tx.parts
  rw [Message.enc_eq]
  unfold Message.parts
  simp only [joinA_cons, joinA_nil, List.cons_append, List.nil_append, Array.append_empty, Array.append_assoc]
def Ready.withI (x : Ready) (v : SlV) : Ready := { x with tx := { x.tx with m := { x.tx.m with instrs := v } } }
theorem Ready.set_ins (x : Ready) (v : SlV) : spl (Enc.enc x) 39 #[v.v] = Enc.enc (x.withI v) := by
  have h := spl_join [#[x.bytes.v], #[x.tx.sigs.v], #[.bool x.tx.m.v0], Enc.enc x.tx.m.header, #[x.tx.m.keys.v], Enc.enc x.tx.m.recent] [#[x.tx.m.lookups.v], #[x.roles.v], Enc.enc x.budget, #[.int .u64 (x.fee : Int)], #[.int .u64 (x.cost : Int)], #[.int .u64 (x.priority : Int)]] (#[x.tx.m.instrs.v]) (#[v.v]) rfl
  rw [show (joinA [#[x.bytes.v], #[x.tx.sigs.v], #[.bool x.tx.m.v0], Enc.enc x.tx.m.header, #[x.tx.m.keys.v], Enc.enc x.tx.m.recent]).size = 39 from (by rw [joinA_size]; simp only [List.map, Enc.size_eq]; rfl)] at h
  rw [Ready.flat_eq x, Ready.flat_eq (x.withI v)]
  exact h
theorem hin_more {w : World} {ins : List Instr} {qs : List PI} {c : Instr} {q : PI} (hl : ins.length = qs.length) (h : ∀ k (h : k < ins.length) (h2 : k < qs.length), InIs w ins[k] qs[k]) (hc : InIs w c q) :
    ∀ k (h : k < (ins ++ [c]).length) (h2 : k < (qs ++ [q]).length), InIs w (ins ++ [c])[k] (qs ++ [q])[k] := by
  intro k h1 h2
  by_cases hk : k < ins.length
  · rw [List.getElem_append_left hk, List.getElem_append_left (by omega)]
    exact h k hk (by omega)
  · have e1 : k = ins.length := by simp at h1; omega
    subst e1
    rw [List.getElem_append_right (Nat.le_refl _), List.getElem_append_right (by omega)]
    simpa [hl] using hc
theorem bad_more {r : List Role} {l : List Account} {ins : List Instr} {c : Instr} {ρ : Role} {y : Account} (h : badArg r l ins = false) (hc : c.program.toNat = r.length) : badArg (r ++ [ρ]) (l ++ [y]) (ins ++ [c]) = false := by
  obtain ⟨h1, h2⟩ := badArg_no h
  unfold badArg
  refine Bool.or_eq_false_iff.2 ⟨by simp [h1], List.any_eq_false.2 fun x hx => ?_⟩
  simp only [decide_eq_true_eq, List.length_append, List.length_singleton]
  rcases List.mem_append.1 hx with hx | hx
  · have := h2 x hx; omega
  · obtain rfl := List.mem_singleton.1 hx
    omega
/-- what the law asks of the two outcomes -/
structure AheadIs (R : Ready) (r : List Role) (qs : List PI) (l : List Account) (so : SlV) (R2 : Ready) (d : List UInt8) (n : UInt8) (sp : SlV) : Prop where
  err : (outF R r qs l so).fail ≠ 0 → (outF R r qs l so).fail ≠ 8 → (outF R2 (r ++ [rhoB]) (qs ++ [qB n d]) (l ++ [az]) sp).fail = (outF R r qs l so).fail ∧ (outF R2 (r ++ [rhoB]) (qs ++ [qB n d]) (l ++ [az]) sp).at_ = (outF R r qs l so).at_ ∧ (outF R2 (r ++ [rhoB]) (qs ++ [qB n d]) (l ++ [az]) sp).units = (outF R r qs l so).units ∧ chgF (r ++ [rhoB]) (accF R2 (r ++ [rhoB]) (qs ++ [qB n d]) (l ++ [az])) = chgF r (accF R r qs l)
  lim : (outF R r qs l so).fail = 0 → (R.budget.units < 150 ∨ R.budget.units - 150 < (outF R r qs l so).units) → (outF R2 (r ++ [rhoB]) (qs ++ [qB n d]) (l ++ [az]) sp).fail = 20 ∧ (outF R2 (r ++ [rhoB]) (qs ++ [qB n d]) (l ++ [az]) sp).units = R.budget.units
  ok : (outF R r qs l so).fail = 0 → ¬ (R.budget.units < 150 ∨ R.budget.units - 150 < (outF R r qs l so).units) → (outF R2 (r ++ [rhoB]) (qs ++ [qB n d]) (l ++ [az]) sp).fail = 0 ∧ (outF R2 (r ++ [rhoB]) (qs ++ [qB n d]) (l ++ [az]) sp).units = (outF R r qs l so).units + 150 ∧ (outF R2 (r ++ [rhoB]) (qs ++ [qB n d]) (l ++ [az]) sp).space = (outF R r qs l so).space ∧ chgF (r ++ [rhoB]) (accF R2 (r ++ [rhoB]) (qs ++ [qB n d]) (l ++ [az])) = chgF r (accF R r qs l)
theorem aheadIs {R : Ready} {r : List Role} {qs : List PI} {l : List Account} {so : SlV} {R2 : Ready} {d : List UInt8} {n : UInt8} {sp : SlV} (hR : R2.budget = R.budget) (hq : ∀ q ∈ qs, q.p.toNat < r.length) (hl : l.length = r.length) (hw : ∀ a ∈ l, okW a) (hn : n.toNat = r.length) (hb : R.budget.bad < (qs.length : Int)) : AheadIs R r qs l so R2 d n sp := by
  obtain ⟨z, hz⟩ : ∃ z, runL r R.budget.units R.budget.bad qs 0 ⟨0, 0, l⟩ = z := ⟨_, rfl⟩
  have hz1 : runZ R r qs l = z := hz
  have hz2 : runZ R2 (r ++ [rhoB]) (qs ++ [qB n d]) (l ++ [az]) = runL (r ++ [rhoB]) R.budget.units R.budget.bad (qs ++ [qB n d]) 0 ⟨0, 0, l ++ [az]⟩ := by unfold runZ; rw [hR]
  have hzl := (runL_len (r := r) (bu := R.budget.units) (bad := R.budget.bad) (qs := qs) (i := 0) (x := ⟨0, 0, l⟩) hw).1
  rw [hz] at hzl
  have hzl : z.2.2.l.length = r.length := hzl.trans hl
  have hlim : (R.budget.units < z.2.2.units ∨ R.budget.units - z.2.2.units < 150) ↔ (R.budget.units < 150 ∨ R.budget.units - 150 < z.2.2.units) := by omega
  refine ⟨fun h0 h8 => ?_, fun h0 hu => ?_, fun h0 hu => ?_⟩
  · have h0 : z.1 ≠ 0 := by rw [← hz1]; exact h0
    have h8 : z.1 ≠ 8 := by rw [← hz1]; exact h8
    have ha := (ahead_all (d := d) (n := n) hz hq hl hw h8 hn hb).1 h0
    rw [← hz2] at ha
    unfold outF accF
    rw [ha, hz1]
    simp only
    rw [if_neg h0, if_neg h0]
    first | exact ⟨rfl, rfl, rfl, chgF_more hl⟩ | exact ⟨trivial, trivial, rfl, chgF_more hl⟩
  · have h0 : z.1 = 0 := by rw [← hz1]; exact h0
    have hu : R.budget.units < 150 ∨ R.budget.units - 150 < z.2.2.units := by rw [← hz1]; exact hu
    have ha := (ahead_all (d := d) (n := n) hz hq hl hw (by rw [h0]; decide) hn hb).2.1 h0 (hlim.2 hu)
    rw [← hz2] at ha
    exact ha
  · have h0 : z.1 = 0 := by rw [← hz1]; exact h0
    have hu : ¬ (R.budget.units < 150 ∨ R.budget.units - 150 < z.2.2.units) := by rw [← hz1]; exact hu
    have ha := (ahead_all (d := d) (n := n) hz hq hl hw (by rw [h0]; decide) hn hb).2.2 h0 (fun h => hu (hlim.1 h))
    rw [← hz2] at ha
    unfold outF accF
    rw [hz1]
    simp only
    rw [if_pos ha.1, if_pos ha.1, if_pos h0, if_pos h0, ha.2, ha.1]
    exact ⟨rfl, rfl, rfl, chgF_more hzl⟩
theorem take_dec {α : Type} [DecidableEq α] {xs ys : List α} {k : Nat} (h1 : k < xs.length) (h2 : k < ys.length) (hl : xs.length = ys.length) (ht : xs.take k = ys.take k) : decide (xs[k] = ys[k]) = decide (xs.length = ys.length ∧ xs.take (k + 1) = ys.take (k + 1)) := by
  refine decide_eq_decide.2 ⟨fun h => ⟨hl, by rw [List.take_succ_eq_append_getElem h1, List.take_succ_eq_append_getElem h2, ht, h]⟩, fun h => ?_⟩
  have h3 : (xs.take (k + 1))[k]? = (ys.take (k + 1))[k]? := by rw [h.2]
  rw [List.getElem?_take_of_lt (by omega), List.getElem?_take_of_lt (by omega), List.getElem?_eq_getElem h1, List.getElem?_eq_getElem h2] at h3
  exact Option.some.inj h3

set_option maxRecDepth 20000 in
set_option maxHeartbeats 2000000 in
theorem ahead_law (w0 : World) (R : Ready) (sl sd : SlV) (l : List Account) (d : List UInt8) (hR0 : R.okz w0) (hl : SlR w0 sl.v l) (hlw : ∀ y ∈ l, okW y) (hd : SlR w0 sd.v d) (hg : ErrLaid w0) : Ret Tryd.prog 5 #[.agg (Enc.enc R), sl.v, sd.v] w0 (fun r w' => r = .bool true ∧ Bel w0 w') := by
  refine Ret.enter (args := [.agg (Enc.enc R), sl.v, sd.v]) Tryd.func5 rfl Tryd.ntmps5 Tryd.results5 rfl ?_
  have hS := St.start w0
  obtain ⟨bs, sg, ks, ins, lks, r, hR⟩ := hR0.is
  obtain ⟨qs, hql, hin⟩ := qs_of hR.oi
  refine WC.seq (fun K1 hK1 => ?_)
  refine WC.region ?_
  refine WL.op rfl (opW.boxA hS rfl ?_)
  intro b3 w _ hS
  refine WL.op rfl (opW.assignB rfl ?_)
  refine WL.nil ?_
  refine thenQ_n (hK1 _ _ ?_)
  refine WC.seq (fun K2 hK2 => ?_)
  refine WC.seq (fun K3 hK3 => ?_)
  refine WC.region ?_
  refine WL.op rfl (opW.moveV (v := sl.v) rfl ?_)
  refine WL.op rfl (opW.lenV rfl ((hl.bel hS.old)) ?_)
  refine WL.op rfl (opW.gtr rfl rfl ?_)
  refine WL.op rfl (opW.moveB rfl ?_)
  cases hcs17 : (decide ((300 : Int) < (l.length : Int))) with
  | true =>
    refine WL.gF 17 rfl rfl rfl rfl ?_
    refine WL.gF 17 rfl rfl rfl rfl ?_
    refine WL.op rfl (opW.pickT rfl rfl ?_)
    refine WL.op rfl (opW.moveB rfl ?_)
    refine WL.gF 21 rfl rfl rfl rfl ?_
    refine WL.gF 21 rfl rfl rfl rfl ?_
    refine WL.gF 21 rfl rfl rfl rfl ?_
    refine WL.op rfl (opW.pickT rfl rfl ?_)
    refine WL.op rfl (opW.moveB rfl ?_)
    refine WL.gF 26 rfl rfl rfl rfl ?_
    refine WL.gF 26 rfl rfl rfl rfl ?_
    refine WL.gF 26 rfl rfl rfl rfl ?_
    refine WL.gF 26 rfl rfl rfl rfl ?_
    refine WL.op rfl (opW.pickT rfl rfl ?_)
    refine WL.op rfl (opW.moveB rfl ?_)
    refine WL.gF 32 rfl rfl rfl rfl ?_
    refine WL.gF 32 rfl rfl rfl rfl ?_
    refine WL.gF 32 rfl rfl rfl rfl ?_
    refine WL.gF 32 rfl rfl rfl rfl ?_
    refine WL.op rfl (opW.pickT rfl rfl ?_)
    refine WL.nil ?_
    refine thenQ_n (hK3 _ _ ?_)
    refine WC.cond _ rfl (fun hc0 => ?_) (fun hc0 => ?_)
    ·
      have hr0 := hc0
      try simp only [decide_eq_true_eq, decide_eq_false_iff_not, Bool.and_eq_true, Bool.or_eq_true, Bool.and_eq_false_iff, Bool.or_eq_false_iff, Bool.not_eq_true', Bool.not_eq_false', Int.not_lt, Int.not_le] at hc0
      refine WC.seq (fun K4 hK4 => ?_)
      refine WC.region ?_
      refine WL.op rfl (opW.call (lives15 _ (hg.bel hS.old)) rfl ?_)
      rintro _ w ⟨rfl, hw⟩; replace hS := hS.bel hw
      refine WL.op rfl (opW.assignB rfl ?_)
      refine WL.nil ?_
      refine thenQ_n (hK4 _ _ ?_)
      refine WC.ret ?_
      refine thenQ_r ?_
      refine bodyQ_ret (.tmpB rfl .nil) ?_
      exact ⟨rfl, hS.old⟩
    ·
      have hr0 := hc0
      try simp only [decide_eq_true_eq, decide_eq_false_iff_not, Bool.and_eq_true, Bool.or_eq_true, Bool.and_eq_false_iff, Bool.or_eq_false_iff, Bool.not_eq_true', Bool.not_eq_false', Int.not_lt, Int.not_le] at hc0
      cases hr0
  | false =>
    refine WL.gT 17 rfl rfl rfl (WL.op rfl (opW.loadV rfl (hS.ldA (b := b3) (cs := Enc.enc R) (by first | exact .h0 | exact .h1 | exact .h2 | exact .h3 | exact .h4 | exact .h5 | exact .h6 | exact .h7 | exact .h8 | exact .h9 | exact .h10 | exact .h11 | exact .h12 | exact .h13 | exact .h14) (Enc.size_eq R)) ?_))
    refine WL.gT 17 rfl rfl rfl (WL.op rfl (opW.call (great15 _ R bs sg ks ins lks r (hR.bel hS.old)) rfl ?_))
    rintro _ w ⟨bb, rfl, hbb, hw⟩; replace hS := hS.bel hw
    refine WL.op rfl (opW.pickT rfl rfl ?_)
    refine WL.op rfl (opW.moveB rfl ?_)
    cases hcs21 : (bb) with
    | true =>
      refine WL.gF 21 rfl rfl rfl rfl ?_
      refine WL.gF 21 rfl rfl rfl rfl ?_
      refine WL.gF 21 rfl rfl rfl rfl ?_
      refine WL.op rfl (opW.pickT rfl rfl ?_)
      refine WL.op rfl (opW.moveB rfl ?_)
      refine WL.gF 26 rfl rfl rfl rfl ?_
      refine WL.gF 26 rfl rfl rfl rfl ?_
      refine WL.gF 26 rfl rfl rfl rfl ?_
      refine WL.gF 26 rfl rfl rfl rfl ?_
      refine WL.op rfl (opW.pickT rfl rfl ?_)
      refine WL.op rfl (opW.moveB rfl ?_)
      refine WL.gF 32 rfl rfl rfl rfl ?_
      refine WL.gF 32 rfl rfl rfl rfl ?_
      refine WL.gF 32 rfl rfl rfl rfl ?_
      refine WL.gF 32 rfl rfl rfl rfl ?_
      refine WL.op rfl (opW.pickT rfl rfl ?_)
      refine WL.nil ?_
      refine thenQ_n (hK3 _ _ ?_)
      refine WC.cond _ rfl (fun hc0 => ?_) (fun hc0 => ?_)
      ·
        have hr0 := hc0
        try simp only [decide_eq_true_eq, decide_eq_false_iff_not, Bool.and_eq_true, Bool.or_eq_true, Bool.and_eq_false_iff, Bool.or_eq_false_iff, Bool.not_eq_true', Bool.not_eq_false', Int.not_lt, Int.not_le] at hc0
        refine WC.seq (fun K5 hK5 => ?_)
        refine WC.region ?_
        refine WL.op rfl (opW.call (lives15 _ (hg.bel hS.old)) rfl ?_)
        rintro _ w ⟨rfl, hw⟩; replace hS := hS.bel hw
        refine WL.op rfl (opW.assignB rfl ?_)
        refine WL.nil ?_
        refine thenQ_n (hK5 _ _ ?_)
        refine WC.ret ?_
        refine thenQ_r ?_
        refine bodyQ_ret (.tmpB rfl .nil) ?_
        exact ⟨rfl, hS.old⟩
      ·
        have hr0 := hc0
        try simp only [decide_eq_true_eq, decide_eq_false_iff_not, Bool.and_eq_true, Bool.or_eq_true, Bool.and_eq_false_iff, Bool.or_eq_false_iff, Bool.not_eq_true', Bool.not_eq_false', Int.not_lt, Int.not_le] at hc0
        cases hr0
    | false =>
      refine WL.gT 21 rfl rfl rfl (WL.op rfl (opW.moveV (v := sd.v) rfl ?_))
      refine WL.gT 21 rfl rfl rfl (WL.op rfl (opW.lenV rfl ((hd.bel hS.old)) ?_))
      refine WL.gT 21 rfl rfl rfl (WL.op rfl (opW.gtr rfl rfl ?_))
      refine WL.op rfl (opW.pickT rfl rfl ?_)
      refine WL.op rfl (opW.moveB rfl ?_)
      cases hcs26 : (decide ((1000 : Int) < (d.length : Int))) with
      | true =>
        refine WL.gF 26 rfl rfl rfl rfl ?_
        refine WL.gF 26 rfl rfl rfl rfl ?_
        refine WL.gF 26 rfl rfl rfl rfl ?_
        refine WL.gF 26 rfl rfl rfl rfl ?_
        refine WL.op rfl (opW.pickT rfl rfl ?_)
        refine WL.op rfl (opW.moveB rfl ?_)
        refine WL.gF 32 rfl rfl rfl rfl ?_
        refine WL.gF 32 rfl rfl rfl rfl ?_
        refine WL.gF 32 rfl rfl rfl rfl ?_
        refine WL.gF 32 rfl rfl rfl rfl ?_
        refine WL.op rfl (opW.pickT rfl rfl ?_)
        refine WL.nil ?_
        refine thenQ_n (hK3 _ _ ?_)
        refine WC.cond _ rfl (fun hc0 => ?_) (fun hc0 => ?_)
        ·
          have hr0 := hc0
          try simp only [decide_eq_true_eq, decide_eq_false_iff_not, Bool.and_eq_true, Bool.or_eq_true, Bool.and_eq_false_iff, Bool.or_eq_false_iff, Bool.not_eq_true', Bool.not_eq_false', Int.not_lt, Int.not_le] at hc0
          refine WC.seq (fun K6 hK6 => ?_)
          refine WC.region ?_
          refine WL.op rfl (opW.call (lives15 _ (hg.bel hS.old)) rfl ?_)
          rintro _ w ⟨rfl, hw⟩; replace hS := hS.bel hw
          refine WL.op rfl (opW.assignB rfl ?_)
          refine WL.nil ?_
          refine thenQ_n (hK6 _ _ ?_)
          refine WC.ret ?_
          refine thenQ_r ?_
          refine bodyQ_ret (.tmpB rfl .nil) ?_
          exact ⟨rfl, hS.old⟩
        ·
          have hr0 := hc0
          try simp only [decide_eq_true_eq, decide_eq_false_iff_not, Bool.and_eq_true, Bool.or_eq_true, Bool.and_eq_false_iff, Bool.or_eq_false_iff, Bool.not_eq_true', Bool.not_eq_false', Int.not_lt, Int.not_le] at hc0
          cases hr0
      | false =>
        refine WL.gT 26 rfl rfl rfl (WL.op rfl (opW.fieldAddrB rfl ?_))
        refine WL.gT 26 rfl rfl rfl (WL.op rfl (opW.loadV rfl (hS.ld1 (b := b3) (cs := Enc.enc R) (by first | exact .h0 | exact .h1 | exact .h2 | exact .h3 | exact .h4 | exact .h5 | exact .h6 | exact .h7 | exact .h8 | exact .h9 | exact .h10 | exact .h11 | exact .h12 | exact .h13 | exact .h14) (Ready.at_roles R)) ?_))
        refine WL.gT 26 rfl rfl rfl (WL.op rfl (opW.lenV rfl ((hR.fr.bel hS.old)) ?_))
        refine WL.gT 26 rfl rfl rfl (WL.op rfl (opW.eql rfl rfl ?_))
        refine WL.op rfl (opW.pickT rfl rfl ?_)
        refine WL.op rfl (opW.moveB rfl ?_)
        cases hcs32 : (decide ((r.length : Int) = 0)) with
        | true =>
          refine WL.gF 32 rfl rfl rfl rfl ?_
          refine WL.gF 32 rfl rfl rfl rfl ?_
          refine WL.gF 32 rfl rfl rfl rfl ?_
          refine WL.gF 32 rfl rfl rfl rfl ?_
          refine WL.op rfl (opW.pickT rfl rfl ?_)
          refine WL.nil ?_
          refine thenQ_n (hK3 _ _ ?_)
          refine WC.cond _ rfl (fun hc0 => ?_) (fun hc0 => ?_)
          ·
            have hr0 := hc0
            try simp only [decide_eq_true_eq, decide_eq_false_iff_not, Bool.and_eq_true, Bool.or_eq_true, Bool.and_eq_false_iff, Bool.or_eq_false_iff, Bool.not_eq_true', Bool.not_eq_false', Int.not_lt, Int.not_le] at hc0
            refine WC.seq (fun K7 hK7 => ?_)
            refine WC.region ?_
            refine WL.op rfl (opW.call (lives15 _ (hg.bel hS.old)) rfl ?_)
            rintro _ w ⟨rfl, hw⟩; replace hS := hS.bel hw
            refine WL.op rfl (opW.assignB rfl ?_)
            refine WL.nil ?_
            refine thenQ_n (hK7 _ _ ?_)
            refine WC.ret ?_
            refine thenQ_r ?_
            refine bodyQ_ret (.tmpB rfl .nil) ?_
            exact ⟨rfl, hS.old⟩
          ·
            have hr0 := hc0
            try simp only [decide_eq_true_eq, decide_eq_false_iff_not, Bool.and_eq_true, Bool.or_eq_true, Bool.and_eq_false_iff, Bool.or_eq_false_iff, Bool.not_eq_true', Bool.not_eq_false', Int.not_lt, Int.not_le] at hc0
            cases hr0
        | false =>
          refine WL.gT 32 rfl rfl rfl (WL.op rfl (opW.fieldAddrB rfl ?_))
          refine WL.gT 32 rfl rfl rfl (WL.op rfl (opW.loadV rfl (hS.ld1 (b := b3) (cs := Enc.enc R) (by first | exact .h0 | exact .h1 | exact .h2 | exact .h3 | exact .h4 | exact .h5 | exact .h6 | exact .h7 | exact .h8 | exact .h9 | exact .h10 | exact .h11 | exact .h12 | exact .h13 | exact .h14) (Ready.at_roles R)) ?_))
          refine WL.gT 32 rfl rfl rfl (WL.op rfl (opW.lenV rfl ((hR.fr.bel hS.old)) ?_))
          refine WL.gT 32 rfl rfl rfl (WL.op rfl (opW.gtr rfl rfl ?_))
          refine WL.op rfl (opW.pickT rfl rfl ?_)
          refine WL.nil ?_
          refine thenQ_n (hK3 _ _ ?_)
          refine WC.cond _ rfl (fun hc0 => ?_) (fun hc0 => ?_)
          ·
            have hr0 := hc0
            try simp only [decide_eq_true_eq, decide_eq_false_iff_not, Bool.and_eq_true, Bool.or_eq_true, Bool.and_eq_false_iff, Bool.or_eq_false_iff, Bool.not_eq_true', Bool.not_eq_false', Int.not_lt, Int.not_le] at hc0
            refine WC.seq (fun K8 hK8 => ?_)
            refine WC.region ?_
            refine WL.op rfl (opW.call (lives15 _ (hg.bel hS.old)) rfl ?_)
            rintro _ w ⟨rfl, hw⟩; replace hS := hS.bel hw
            refine WL.op rfl (opW.assignB rfl ?_)
            refine WL.nil ?_
            refine thenQ_n (hK8 _ _ ?_)
            refine WC.ret ?_
            refine thenQ_r ?_
            refine bodyQ_ret (.tmpB rfl .nil) ?_
            exact ⟨rfl, hS.old⟩
          ·
            have hr0 := hc0
            try simp only [decide_eq_true_eq, decide_eq_false_iff_not, Bool.and_eq_true, Bool.or_eq_true, Bool.and_eq_false_iff, Bool.or_eq_false_iff, Bool.not_eq_true', Bool.not_eq_false', Int.not_lt, Int.not_le] at hc0
            have hsm := hbb hcs21
            have hll : l.length ≤ 300 := by simp only [decide_eq_false_iff_not] at hcs17; omega
            have hdl : d.length ≤ 1000 := by simp only [decide_eq_false_iff_not] at hcs26; omega
            have hr0l : r.length ≠ 0 := by simp only [decide_eq_false_iff_not] at hcs32; omega
            have hrl2 : r.length ≤ 200 := by omega
            have hil2 := hsm.i
            refine WC.skip ?_
            refine thenQ_n (hK2 _ _ ?_)
            refine WC.seq (fun K9 hK9 => ?_)
            refine WC.region ?_
            refine WL.op rfl (opW.loadV rfl (hS.ldA (b := b3) (cs := Enc.enc R) (by first | exact .h0 | exact .h1 | exact .h2 | exact .h3 | exact .h4 | exact .h5 | exact .h6 | exact .h7 | exact .h8 | exact .h9 | exact .h10 | exact .h11 | exact .h12 | exact .h13 | exact .h14) (Enc.size_eq R)) ?_)
            refine WL.op rfl (opW.moveV (v := sl.v) rfl ?_)
            refine WL.op rfl (opW.call (run_any _ R sl l r ins qs (hg.bel hS.old) (hl.bel hS.old) (hR.fr.bel hS.old) (hR.fi.bel hS.old) hql (fun k h h2 => (hin k h h2).bel hS.old) (by have := hR.bu; omega) (by omega) (by omega) hlw) rfl ?_)
            rintro _ w ⟨o, e, ch, rfl, hn42, hO, hw⟩; replace hS := hS.newOwn hw hn42.1 hn42.2
            refine WL.op rfl (opW.moveV (v := .tuple #[.agg (Enc.enc o), .int .i64 e]) rfl ?_)
            refine WL.op rfl (opW.extract rfl rfl ?_)
            refine WL.op rfl (opW.extract rfl rfl ?_)
            refine WL.op rfl (opW.allocA hS ?_)
            intro b7 w _ hS
            refine WL.op0 (opW.storeE hS rfl rfl (by first | exact .h0 | exact .h1 | exact .h2 | exact .h3 | exact .h4 | exact .h5 | exact .h6 | exact .h7 | exact .h8 | exact .h9 | exact .h10 | exact .h11 | exact .h12 | exact .h13 | exact .h14) (by first | rfl | exact Enc.size_eq _) ?_)
            intro w hS; replace hS := hS _ (by first | exact .h0 | exact .h1 | exact .h2 | exact .h3 | exact .h4 | exact .h5 | exact .h6 | exact .h7 | exact .h8 | exact .h9 | exact .h10 | exact .h11 | exact .h12 | exact .h13 | exact .h14)
            refine WL.op rfl (opW.assignI rfl ?_)
            refine WL.nil ?_
            refine thenQ_n (hK9 _ _ ?_)
            refine WC.seq (fun K10 hK10 => ?_)
            refine WC.seq (fun K11 hK11 => ?_)
            refine WC.region ?_
            refine WL.op rfl (opW.moveI rfl ?_)
            refine WL.op rfl (opW.neq rfl rfl ?_)
            refine WL.nil ?_
            refine thenQ_n (hK11 _ _ ?_)
            refine WC.cond _ rfl (fun hc1 => ?_) (fun hc1 => ?_)
            ·
              have hr1 := hc1
              try simp only [decide_eq_true_eq, decide_eq_false_iff_not, Bool.and_eq_true, Bool.or_eq_true, Bool.and_eq_false_iff, Bool.or_eq_false_iff, Bool.not_eq_true', Bool.not_eq_false', Int.not_lt, Int.not_le] at hc1
              refine WC.seq (fun K12 hK12 => ?_)
              refine WC.region ?_
              refine WL.op rfl (opW.call (lives15 _ (hg.bel hS.old)) rfl ?_)
              rintro _ w ⟨rfl, hw⟩; replace hS := hS.bel hw
              refine WL.op rfl (opW.assignB rfl ?_)
              refine WL.nil ?_
              refine thenQ_n (hK12 _ _ ?_)
              refine WC.ret ?_
              refine thenQ_r ?_
              refine bodyQ_ret (.tmpB rfl .nil) ?_
              exact ⟨rfl, hS.old⟩
            ·
              have hr1 := hc1
              try simp only [decide_eq_true_eq, decide_eq_false_iff_not, Bool.and_eq_true, Bool.or_eq_true, Bool.and_eq_false_iff, Bool.or_eq_false_iff, Bool.not_eq_true', Bool.not_eq_false', Int.not_lt, Int.not_le] at hc1
              obtain ⟨hbad, so, rfl, rfl⟩ := hO.good (by simpa using hc1)
              obtain ⟨hlen, hpr⟩ := badArg_no hbad
              obtain ⟨sl8, hsl8⟩ : ∃ n : UInt8, UInt8.ofNat r.length = n := ⟨_, rfl⟩
              have hn8 : (UInt8.ofNat r.length).toNat = r.length := by simp; omega
              refine WC.skip ?_
              refine thenQ_n (hK10 _ _ ?_)
              refine WC.seq (fun K13 hK13 => ?_)
              refine WC.region ?_
              refine WL.op rfl (opW.loadV rfl (hS.ldA (b := b3) (cs := Enc.enc R) (by first | exact .h0 | exact .h1 | exact .h2 | exact .h3 | exact .h4 | exact .h5 | exact .h6 | exact .h7 | exact .h8 | exact .h9 | exact .h10 | exact .h11 | exact .h12 | exact .h13 | exact .h14) (Enc.size_eq R)) ?_)
              refine WL.op rfl (opW.allocA hS ?_)
              intro b9 w _ hS
              refine WL.op0 (opW.storeE hS rfl rfl (by first | exact .h0 | exact .h1 | exact .h2 | exact .h3 | exact .h4 | exact .h5 | exact .h6 | exact .h7 | exact .h8 | exact .h9 | exact .h10 | exact .h11 | exact .h12 | exact .h13 | exact .h14) (by first | rfl | exact Enc.size_eq _) ?_)
              intro w hS; replace hS := hS _ (by first | exact .h0 | exact .h1 | exact .h2 | exact .h3 | exact .h4 | exact .h5 | exact .h6 | exact .h7 | exact .h8 | exact .h9 | exact .h10 | exact .h11 | exact .h12 | exact .h13 | exact .h14)
              refine WL.nil ?_
              refine thenQ_n (hK13 _ _ ?_)
              refine WC.seq (fun K14 hK14 => ?_)
              refine WC.region ?_
              refine WL.op rfl (opW.fieldAddrB rfl ?_)
              refine WL.op rfl (opW.loadV rfl (hS.ld1 (b := b3) (cs := Enc.enc R) (by first | exact .h0 | exact .h1 | exact .h2 | exact .h3 | exact .h4 | exact .h5 | exact .h6 | exact .h7 | exact .h8 | exact .h9 | exact .h10 | exact .h11 | exact .h12 | exact .h13 | exact .h14) (Ready.at_roles R)) ?_)
              refine WL.op rfl (opW.appendNil (α := Role) rfl hS rfl ((hR.fr.bel hS.old)) (by (try simp only [List.length_append, List.length_cons, List.length_nil, List.length_map]); omega) (by simp only [maxLen]; (try simp only [List.length_append, List.length_cons, List.length_nil, List.length_map]); omega) ?_)
              intro v51 w hw hS
              refine WL.op rfl (opW.call (bud_ok _) rfl ?_)
              rintro _ w ⟨rfl, hw⟩; replace hS := hS.bel hw
              refine WL.op rfl (opW.buildE (r := rhoB) (ps := Role.parts rhoB) (Role.enc_eq _) (by exact rfl) (by exact fitO ⟨by decide, Enc.size_eq budK, trivial⟩) ?_)
              refine WL.op rfl (opW.buildSl hS (([rhoB] : List Role)) [.agg (Enc.enc rhoB)] rfl rfl rfl rfl (by decide) ?_)
              intro b54 w hw hS
              refine WL.op rfl (opW.appendOwn (α := Role) (v := v51) (xs := r) (ys := [rhoB]) rfl hS rfl (by first | exact .h0 | exact .h1 | exact .h2 | exact .h3 | exact .h4 | exact .h5 | exact .h6 | exact .h7 | exact .h8 | exact .h9 | exact .h10 | exact .h11 | exact .h12 | exact .h13 | exact .h14) (hS.sl (v := .slice (some ⟨b54, 0, none⟩) 1 1) (xs := ([rhoB] : List Role)) (by first | exact .h0 | exact .h1 | exact .h2 | exact .h3 | exact .h4 | exact .h5 | exact .h6 | exact .h7 | exact .h8 | exact .h9 | exact .h10 | exact .h11 | exact .h12 | exact .h13 | exact .h14)) (by simp only [List.length_cons, List.length_nil]; omega) (by simp only [maxLen, List.length_cons, List.length_nil]; omega) ?_)
              intro v55 w hS; replace hS := hS _ (by first | exact .h0 | exact .h1 | exact .h2 | exact .h3 | exact .h4 | exact .h5 | exact .h6 | exact .h7 | exact .h8 | exact .h9 | exact .h10 | exact .h11 | exact .h12 | exact .h13 | exact .h14)
              obtain ⟨s2, rfl⟩ := (hS.sl (v := v55) (xs := (r ++ [rhoB])) (by first | exact .h0 | exact .h1 | exact .h2 | exact .h3 | exact .h4 | exact .h5 | exact .h6 | exact .h7 | exact .h8 | exact .h9 | exact .h10 | exact .h11 | exact .h12 | exact .h13 | exact .h14)).asV
              refine WL.op rfl (opW.fieldAddrB rfl ?_)
              refine WL.op0 (opW.storeF (b := b9) (o := 41) (v := s2.v) (sz := 1) (cs := Enc.enc R) (cs' := Enc.enc ({ R with roles := s2 } : Ready)) hS rfl rfl (by first | exact .h0 | exact .h1 | exact .h2 | exact .h3 | exact .h4 | exact .h5 | exact .h6 | exact .h7 | exact .h8 | exact .h9 | exact .h10 | exact .h11 | exact .h12 | exact .h13 | exact .h14) rfl (by rw [Enc.size_eq]; decide) (Enc.one (α := SlV) s2) (Ready.set_roles R s2) ?_)
              intro w hS; replace hS := hS _ (by first | exact .h0 | exact .h1 | exact .h2 | exact .h3 | exact .h4 | exact .h5 | exact .h6 | exact .h7 | exact .h8 | exact .h9 | exact .h10 | exact .h11 | exact .h12 | exact .h13 | exact .h14)
              refine WL.nil ?_
              refine thenQ_n (hK14 _ _ ?_)
              refine WC.mid (fun f w => ∃ s3 : SlV, Fits [(1, sl.v), (3, .pointer (some ⟨b3, 0, none⟩)), (7, .pointer (some ⟨b7, 0, none⟩)), (9, .pointer (some ⟨b9, 0, none⟩))] f ∧ St w0 [blkE b9 (Enc.enc (Ready.withI { R with roles := s2 } s3)) 41, ownE s3.v 71 (ins ++ [(⟨(UInt8.ofNat r.length), ⟨none, 0, 0⟩, sd⟩ : Instr)]), ownE s2.v 62 (r ++ [rhoB]), blkE b7 (Enc.enc (outF R r qs l so)) 54, ownE (outF R r qs l so).changed.v 64 (chgF r (accF R r qs l)), blkE b3 (Enc.enc R) 41] w) ?_ ?_
              ·
                refine WC.draw 16 (.look 0 (.look 1 (.look 2 (.look 3 (.look 5 (.look 6 (.look 7 (.look 8 (.look 9 (.look 10 (.fork 4 11 (.one 11 (.one 12 (.look 13 (.look 14 (.look 15 (.one 16 .nil)))))) (.one 4 (.one 12 (.look 13 (.look 14 (.look 15 (.one 16 .nil))))))))))))))))) (by kernel_rfl) (fun _ _ _ h => h) (fun w1 hw1 => ?_)
                replace hS := hS.bel hw1
                have hS1 := hS
                have hT := St.start w1
                refine ML.look rfl rfl rfl (fun w hw => (by have hS := hS1.bel hw; exact opW.fieldAddrB rfl ⟨rfl, rfl⟩)) ?_
                refine ML.look rfl rfl rfl (fun w hw => (by have hS := hS1.bel hw; exact opW.fieldAddrB rfl ⟨rfl, rfl⟩)) ?_
                refine ML.look rfl rfl rfl (fun w hw => (by have hS := hS1.bel hw; exact opW.fieldAddrB rfl ⟨rfl, rfl⟩)) ?_
                refine ML.look rfl rfl rfl (fun w hw => (by have hS := hS1.bel hw; exact opW.loadV rfl (hS.ld1 (b := b3) (cs := Enc.enc R) (by first | exact .h0 | exact .h1 | exact .h2 | exact .h3 | exact .h4 | exact .h5 | exact .h6 | exact .h7 | exact .h8 | exact .h9 | exact .h10 | exact .h11 | exact .h12 | exact .h13 | exact .h14) (Ready.at_ins R)) ⟨rfl, rfl⟩)) ?_
                refine ML.look rfl rfl rfl (fun w hw => (by have hS := hS1.bel hw; exact opW.fieldAddrB rfl ⟨rfl, rfl⟩)) ?_
                refine ML.look rfl rfl rfl (fun w hw => (by have hS := hS1.bel hw; exact opW.loadV rfl (hS.ld1 (b := b3) (cs := Enc.enc R) (by first | exact .h0 | exact .h1 | exact .h2 | exact .h3 | exact .h4 | exact .h5 | exact .h6 | exact .h7 | exact .h8 | exact .h9 | exact .h10 | exact .h11 | exact .h12 | exact .h13 | exact .h14) (Ready.at_roles R)) ⟨rfl, rfl⟩)) ?_
                refine ML.look rfl rfl rfl (fun w hw => (by have hS := hS1.bel hw; exact opW.lenV rfl ((hR.fr.bel hS.old)) ⟨rfl, rfl⟩)) ?_
                refine ML.look rfl rfl rfl (fun w hw => (by have hS := hS1.bel hw; exact opW.conv rfl ((wrap_u8_mod _).trans (show (r.length : Int) % 256 = ((UInt8.ofNat r.length).toNat : Int) from by rw [hn8]; omega)) ⟨rfl, rfl⟩)) ?_
                refine ML.look rfl rfl rfl (fun w hw => (by have hS := hS1.bel hw; exact opW.moveV (v := sd.v) rfl ⟨rfl, rfl⟩)) ?_
                refine ML.look rfl rfl rfl (fun w hw => (by have hS := hS1.bel hw; exact opW.buildE (r := (⟨(UInt8.ofNat r.length), ⟨none, 0, 0⟩, sd⟩ : Instr)) (ps := Instr.parts (⟨(UInt8.ofNat r.length), ⟨none, 0, 0⟩, sd⟩ : Instr)) (Instr.enc_eq _) (by exact rfl) (by exact fitO ⟨by decide, rfl, by decide, rfl, trivial⟩) ⟨rfl, rfl⟩)) ?_
                refine ML.fork rfl rfl rfl rfl ?_ ?_ 
                · refine opW.appendNil (α := Instr) rfl hT rfl ((hR.fi.bel (hS1.old.trans hT.old))) (by (try simp only [List.length_append, List.length_cons, List.length_nil, List.length_map]); omega) (by simp only [maxLen]; (try simp only [List.length_append, List.length_cons, List.length_nil, List.length_map]); omega) ?_
                  intro v61 w hw hT
                  refine ⟨hT.old, ?_⟩
                  have hS := hS1.merge hT
                  try simp only [List.cons_append, List.nil_append] at hS
                  refine ML.one rfl rfl rfl (opW.buildSl hT (([(⟨(UInt8.ofNat r.length), ⟨none, 0, 0⟩, sd⟩ : Instr)] : List Instr)) [.agg (Enc.enc (⟨(UInt8.ofNat r.length), ⟨none, 0, 0⟩, sd⟩ : Instr))] rfl rfl rfl rfl (by decide) ?_)
                  intro b68 w hw hT
                  refine ⟨hT.old, ?_⟩
                  have hS := hS1.merge hT
                  try simp only [List.cons_append, List.nil_append] at hS
                  refine ML.one rfl rfl rfl (opW.appendOwn (α := Instr) (v := v61) (xs := ins) (ys := [(⟨(UInt8.ofNat r.length), ⟨none, 0, 0⟩, sd⟩ : Instr)]) rfl hT rfl (by first | exact .h0 | exact .h1 | exact .h2 | exact .h3 | exact .h4 | exact .h5 | exact .h6 | exact .h7 | exact .h8 | exact .h9 | exact .h10 | exact .h11 | exact .h12 | exact .h13 | exact .h14) (hT.sl (v := .slice (some ⟨b68, 0, none⟩) 1 1) (xs := ([(⟨(UInt8.ofNat r.length), ⟨none, 0, 0⟩, sd⟩ : Instr)] : List Instr)) (by first | exact .h0 | exact .h1 | exact .h2 | exact .h3 | exact .h4 | exact .h5 | exact .h6 | exact .h7 | exact .h8 | exact .h9 | exact .h10 | exact .h11 | exact .h12 | exact .h13 | exact .h14)) (by simp only [List.length_cons, List.length_nil]; omega) (by simp only [maxLen, List.length_cons, List.length_nil]; omega) ?_)
                  intro v69 w hT; replace hT := hT _ (by first | exact .h0 | exact .h1 | exact .h2 | exact .h3 | exact .h4 | exact .h5 | exact .h6 | exact .h7 | exact .h8 | exact .h9 | exact .h10 | exact .h11 | exact .h12 | exact .h13 | exact .h14)
                  obtain ⟨s3, rfl⟩ := (hT.sl (v := v69) (xs := (ins ++ [(⟨(UInt8.ofNat r.length), ⟨none, 0, 0⟩, sd⟩ : Instr)])) (by first | exact .h0 | exact .h1 | exact .h2 | exact .h3 | exact .h4 | exact .h5 | exact .h6 | exact .h7 | exact .h8 | exact .h9 | exact .h10 | exact .h11 | exact .h12 | exact .h13 | exact .h14)).asV
                  refine ⟨hT.old, ?_⟩
                  have hS := hS1.merge hT
                  try simp only [List.cons_append, List.nil_append] at hS
                  refine ML.look rfl rfl rfl (fun w hw => (by have hS := hS1.bel hw; exact opW.fieldAddrB rfl ⟨rfl, rfl⟩)) ?_
                  refine ML.look rfl rfl rfl (fun w hw => (by have hS := hS1.bel hw; exact opW.fieldAddrB rfl ⟨rfl, rfl⟩)) ?_
                  refine ML.look rfl rfl rfl (fun w hw => (by have hS := hS1.bel hw; exact opW.fieldAddrB rfl ⟨rfl, rfl⟩)) ?_
                  refine ML.put0 rfl rfl rfl (opW.storeF (b := b9) (o := 39) (v := s3.v) (sz := 1) (cs := Enc.enc ({ R with roles := s2 } : Ready)) (cs' := Enc.enc (Ready.withI { R with roles := s2 } s3)) hS rfl rfl (by first | exact .h0 | exact .h1 | exact .h2 | exact .h3 | exact .h4 | exact .h5 | exact .h6 | exact .h7 | exact .h8 | exact .h9 | exact .h10 | exact .h11 | exact .h12 | exact .h13 | exact .h14) rfl (by rw [Enc.size_eq]; decide) (Enc.one (α := SlV) s3) (Ready.set_ins ({ R with roles := s2 } : Ready) s3) ?_)
                  intro w hS; replace hS := hS _ (by first | exact .h0 | exact .h1 | exact .h2 | exact .h3 | exact .h4 | exact .h5 | exact .h6 | exact .h7 | exact .h8 | exact .h9 | exact .h10 | exact .h11 | exact .h12 | exact .h13 | exact .h14)
                  refine ML.nil ?_
                  refine thenQ_n ?_
                  exact ⟨s3, ⟨rfl, rfl, rfl, rfl, trivial⟩, (((((((hS.pick (e := blkE b3 (Enc.enc R) 41) (by first | exact .h0 | exact .h1 | exact .h2 | exact .h3 | exact .h4 | exact .h5 | exact .h6 | exact .h7 | exact .h8 | exact .h9 | exact .h10 | exact .h11 | exact .h12 | exact .h13 | exact .h14)).pick (e := ownE (outF R r qs l so).changed.v 64 (chgF r (accF R r qs l))) (by first | exact .h0 | exact .h1 | exact .h2 | exact .h3 | exact .h4 | exact .h5 | exact .h6 | exact .h7 | exact .h8 | exact .h9 | exact .h10 | exact .h11 | exact .h12 | exact .h13 | exact .h14)).pick (e := blkE b7 (Enc.enc (outF R r qs l so)) 54) (by first | exact .h0 | exact .h1 | exact .h2 | exact .h3 | exact .h4 | exact .h5 | exact .h6 | exact .h7 | exact .h8 | exact .h9 | exact .h10 | exact .h11 | exact .h12 | exact .h13 | exact .h14)).pick (e := ownE s2.v 62 (r ++ [rhoB])) (by first | exact .h0 | exact .h1 | exact .h2 | exact .h3 | exact .h4 | exact .h5 | exact .h6 | exact .h7 | exact .h8 | exact .h9 | exact .h10 | exact .h11 | exact .h12 | exact .h13 | exact .h14)).pick (e := ownE s3.v 71 (ins ++ [(⟨(UInt8.ofNat r.length), ⟨none, 0, 0⟩, sd⟩ : Instr)])) (by first | exact .h0 | exact .h1 | exact .h2 | exact .h3 | exact .h4 | exact .h5 | exact .h6 | exact .h7 | exact .h8 | exact .h9 | exact .h10 | exact .h11 | exact .h12 | exact .h13 | exact .h14)).pick (e := blkE b9 (Enc.enc (Ready.withI { R with roles := s2 } s3)) 41) (by first | exact .h0 | exact .h1 | exact .h2 | exact .h3 | exact .h4 | exact .h5 | exact .h6 | exact .h7 | exact .h8 | exact .h9 | exact .h10 | exact .h11 | exact .h12 | exact .h13 | exact .h14)).sub (by repeat (first | with_reducible exact List.nil_sublist _ | with_reducible exact List.Sublist.refl _ | with_reducible refine List.Sublist.cons₂ _ ?_ | with_reducible refine List.Sublist.cons _ ?_)))⟩
                · refine opW.buildSl hT (([(⟨(UInt8.ofNat r.length), ⟨none, 0, 0⟩, sd⟩ : Instr)] : List Instr)) [.agg (Enc.enc (⟨(UInt8.ofNat r.length), ⟨none, 0, 0⟩, sd⟩ : Instr))] rfl rfl rfl rfl (by decide) ?_
                  intro b68 w hw hT
                  refine ⟨hT.old, ?_⟩
                  have hS := hS1.merge hT
                  try simp only [List.cons_append, List.nil_append] at hS
                  refine ML.one rfl rfl rfl (opW.appendNil (α := Instr) rfl hT rfl ((hR.fi.bel (hS1.old.trans hT.old))) (by (try simp only [List.length_append, List.length_cons, List.length_nil, List.length_map]); omega) (by simp only [maxLen]; (try simp only [List.length_append, List.length_cons, List.length_nil, List.length_map]); omega) ?_)
                  intro v61 w hw hT
                  refine ⟨hT.old, ?_⟩
                  have hS := hS1.merge hT
                  try simp only [List.cons_append, List.nil_append] at hS
                  refine ML.one rfl rfl rfl (opW.appendOwn (α := Instr) (v := v61) (xs := ins) (ys := [(⟨(UInt8.ofNat r.length), ⟨none, 0, 0⟩, sd⟩ : Instr)]) rfl hT rfl (by first | exact .h0 | exact .h1 | exact .h2 | exact .h3 | exact .h4 | exact .h5 | exact .h6 | exact .h7 | exact .h8 | exact .h9 | exact .h10 | exact .h11 | exact .h12 | exact .h13 | exact .h14) (hT.sl (v := .slice (some ⟨b68, 0, none⟩) 1 1) (xs := ([(⟨(UInt8.ofNat r.length), ⟨none, 0, 0⟩, sd⟩ : Instr)] : List Instr)) (by first | exact .h0 | exact .h1 | exact .h2 | exact .h3 | exact .h4 | exact .h5 | exact .h6 | exact .h7 | exact .h8 | exact .h9 | exact .h10 | exact .h11 | exact .h12 | exact .h13 | exact .h14)) (by simp only [List.length_cons, List.length_nil]; omega) (by simp only [maxLen, List.length_cons, List.length_nil]; omega) ?_)
                  intro v69 w hT; replace hT := hT _ (by first | exact .h0 | exact .h1 | exact .h2 | exact .h3 | exact .h4 | exact .h5 | exact .h6 | exact .h7 | exact .h8 | exact .h9 | exact .h10 | exact .h11 | exact .h12 | exact .h13 | exact .h14)
                  obtain ⟨s3, rfl⟩ := (hT.sl (v := v69) (xs := (ins ++ [(⟨(UInt8.ofNat r.length), ⟨none, 0, 0⟩, sd⟩ : Instr)])) (by first | exact .h0 | exact .h1 | exact .h2 | exact .h3 | exact .h4 | exact .h5 | exact .h6 | exact .h7 | exact .h8 | exact .h9 | exact .h10 | exact .h11 | exact .h12 | exact .h13 | exact .h14)).asV
                  refine ⟨hT.old, ?_⟩
                  have hS := hS1.merge hT
                  try simp only [List.cons_append, List.nil_append] at hS
                  refine ML.look rfl rfl rfl (fun w hw => (by have hS := hS1.bel hw; exact opW.fieldAddrB rfl ⟨rfl, rfl⟩)) ?_
                  refine ML.look rfl rfl rfl (fun w hw => (by have hS := hS1.bel hw; exact opW.fieldAddrB rfl ⟨rfl, rfl⟩)) ?_
                  refine ML.look rfl rfl rfl (fun w hw => (by have hS := hS1.bel hw; exact opW.fieldAddrB rfl ⟨rfl, rfl⟩)) ?_
                  refine ML.put0 rfl rfl rfl (opW.storeF (b := b9) (o := 39) (v := s3.v) (sz := 1) (cs := Enc.enc ({ R with roles := s2 } : Ready)) (cs' := Enc.enc (Ready.withI { R with roles := s2 } s3)) hS rfl rfl (by first | exact .h0 | exact .h1 | exact .h2 | exact .h3 | exact .h4 | exact .h5 | exact .h6 | exact .h7 | exact .h8 | exact .h9 | exact .h10 | exact .h11 | exact .h12 | exact .h13 | exact .h14) rfl (by rw [Enc.size_eq]; decide) (Enc.one (α := SlV) s3) (Ready.set_ins ({ R with roles := s2 } : Ready) s3) ?_)
                  intro w hS; replace hS := hS _ (by first | exact .h0 | exact .h1 | exact .h2 | exact .h3 | exact .h4 | exact .h5 | exact .h6 | exact .h7 | exact .h8 | exact .h9 | exact .h10 | exact .h11 | exact .h12 | exact .h13 | exact .h14)
                  refine ML.nil ?_
                  refine thenQ_n ?_
                  exact ⟨s3, ⟨rfl, rfl, rfl, rfl, trivial⟩, (((((((hS.pick (e := blkE b3 (Enc.enc R) 41) (by first | exact .h0 | exact .h1 | exact .h2 | exact .h3 | exact .h4 | exact .h5 | exact .h6 | exact .h7 | exact .h8 | exact .h9 | exact .h10 | exact .h11 | exact .h12 | exact .h13 | exact .h14)).pick (e := ownE (outF R r qs l so).changed.v 64 (chgF r (accF R r qs l))) (by first | exact .h0 | exact .h1 | exact .h2 | exact .h3 | exact .h4 | exact .h5 | exact .h6 | exact .h7 | exact .h8 | exact .h9 | exact .h10 | exact .h11 | exact .h12 | exact .h13 | exact .h14)).pick (e := blkE b7 (Enc.enc (outF R r qs l so)) 54) (by first | exact .h0 | exact .h1 | exact .h2 | exact .h3 | exact .h4 | exact .h5 | exact .h6 | exact .h7 | exact .h8 | exact .h9 | exact .h10 | exact .h11 | exact .h12 | exact .h13 | exact .h14)).pick (e := ownE s2.v 62 (r ++ [rhoB])) (by first | exact .h0 | exact .h1 | exact .h2 | exact .h3 | exact .h4 | exact .h5 | exact .h6 | exact .h7 | exact .h8 | exact .h9 | exact .h10 | exact .h11 | exact .h12 | exact .h13 | exact .h14)).pick (e := ownE s3.v 71 (ins ++ [(⟨(UInt8.ofNat r.length), ⟨none, 0, 0⟩, sd⟩ : Instr)])) (by first | exact .h0 | exact .h1 | exact .h2 | exact .h3 | exact .h4 | exact .h5 | exact .h6 | exact .h7 | exact .h8 | exact .h9 | exact .h10 | exact .h11 | exact .h12 | exact .h13 | exact .h14)).pick (e := blkE b9 (Enc.enc (Ready.withI { R with roles := s2 } s3)) 41) (by first | exact .h0 | exact .h1 | exact .h2 | exact .h3 | exact .h4 | exact .h5 | exact .h6 | exact .h7 | exact .h8 | exact .h9 | exact .h10 | exact .h11 | exact .h12 | exact .h13 | exact .h14)).sub (by repeat (first | with_reducible exact List.nil_sublist _ | with_reducible exact List.Sublist.refl _ | with_reducible refine List.Sublist.cons₂ _ ?_ | with_reducible refine List.Sublist.cons _ ?_)))⟩
              ·
                rintro f w ⟨s3, hfit, hS⟩
                refine WC.fits _ hfit (fun g => ?_)
                clear hfit
                refine WC.mid (fun f w => ∃ (b10 : Nat) (sp : SlV), Fits [(3, .pointer (some ⟨b3, 0, none⟩)), (7, .pointer (some ⟨b7, 0, none⟩)), (10, .pointer (some ⟨b10, 0, none⟩)), (11, .int .i64 0)] f ∧ St w0 [blkE b10 (Enc.enc (outF (Ready.withI { R with roles := s2 } s3) (r ++ [rhoB]) (qs ++ [qB (UInt8.ofNat r.length) d]) (l ++ [az]) sp)) 54, ownE (outF (Ready.withI { R with roles := s2 } s3) (r ++ [rhoB]) (qs ++ [qB (UInt8.ofNat r.length) d]) (l ++ [az]) sp).changed.v 64 (chgF (r ++ [rhoB]) (accF (Ready.withI { R with roles := s2 } s3) (r ++ [rhoB]) (qs ++ [qB (UInt8.ofNat r.length) d]) (l ++ [az]))), blkE b7 (Enc.enc (outF R r qs l so)) 54, ownE (outF R r qs l so).changed.v 64 (chgF r (accF R r qs l)), blkE b3 (Enc.enc R) 41] w) ?_ ?_
                ·
                  refine WC.drawI 13 (.look 0 (.look 1 (.look 3 (.fork3 2 4 10 (.fork 4 10 (.fork 5 10 (.fork 6 10 (.look 7 (.look 8 (.look 9 (.one 10 (.one 11 (.look 12 .nil)))))) (.one 6 (.look 7 (.look 8 (.look 9 (.one 11 (.look 12 .nil))))))) (.one 5 (.one 6 (.look 7 (.look 8 (.look 9 (.one 11 (.look 12 .nil)))))))) (.one 4 (.one 5 (.one 6 (.look 7 (.look 8 (.look 9 (.one 11 (.look 12 .nil))))))))) (.fork 2 10 (.fork 5 10 (.fork 6 10 (.look 7 (.look 8 (.look 9 (.one 10 (.one 11 (.look 12 .nil)))))) (.one 6 (.look 7 (.look 8 (.look 9 (.one 11 (.look 12 .nil))))))) (.one 5 (.one 6 (.look 7 (.look 8 (.look 9 (.one 11 (.look 12 .nil)))))))) (.one 2 (.one 5 (.one 6 (.look 7 (.look 8 (.look 9 (.one 11 (.look 12 .nil))))))))) (.fork 2 4 (.one 4 (.one 5 (.one 6 (.look 7 (.look 8 (.look 9 (.one 11 (.look 12 .nil)))))))) (.one 2 (.one 5 (.one 6 (.look 7 (.look 8 (.look 9 (.one 11 (.look 12 .nil))))))))))))) (by kernel_rfl) (fun _ _ _ h => h) (fun w1 hw1 => ?_)
                  replace hS := hS.bel hw1
                  have hS1 := hS
                  refine ⟨(fun w => ∃ S1, St w0 (blkE b9 (Enc.enc (Ready.withI { R with roles := s2 } s3)) 41 :: S1) w), ⟨_, hS.pick (e := blkE b9 (Enc.enc (Ready.withI { R with roles := s2 } s3)) 41) (by first | exact .h0 | exact .h1 | exact .h2 | exact .h3 | exact .h4 | exact .h5 | exact .h6 | exact .h7 | exact .h8 | exact .h9 | exact .h10 | exact .h11 | exact .h12 | exact .h13 | exact .h14)⟩, ?_⟩
                  have hbad2 : badArg (r ++ [rhoB]) (l ++ [az]) (ins ++ [(⟨(UInt8.ofNat r.length), ⟨none, 0, 0⟩, sd⟩ : Instr)]) = false := bad_more hbad hn8
                  have hbu2 : (Ready.withI { R with roles := s2 } s3).budget.units < 18446744073709551616 := by have := hR.bu; show R.budget.units < _; omega
                  have hlw2 : ∀ y ∈ (l ++ [az]), okW y := by
                    intro y hy
                    rcases List.mem_append.1 hy with hy | hy
                    · exact hlw y hy
                    · obtain rfl := List.mem_singleton.1 hy
                      exact ⟨by decide, by decide⟩
                  refine ML.look rfl rfl rfl (fun w hw => (by obtain ⟨S1, hS⟩ := hw; exact opW.loadV rfl (hS.ldA (b := b9) (cs := Enc.enc (Ready.withI { R with roles := s2 } s3)) (by first | exact .h0 | exact .h1 | exact .h2 | exact .h3 | exact .h4 | exact .h5 | exact .h6 | exact .h7 | exact .h8 | exact .h9 | exact .h10 | exact .h11 | exact .h12 | exact .h13 | exact .h14) (Enc.size_eq (Ready.withI { R with roles := s2 } s3))) ⟨rfl, rfl⟩)) ?_
                  refine ML.look rfl rfl rfl (fun w hw => (by obtain ⟨S1, hS⟩ := hw; exact opW.moveV (v := sl.v) rfl ⟨rfl, rfl⟩)) ?_
                  refine ML.look rfl rfl rfl (fun w hw => (by obtain ⟨S1, hS⟩ := hw; exact opW.buildE (r := az) (ps := Account.parts az) (Account.enc_eq _) (by exact azParts) (by exact trivial) ⟨rfl, rfl⟩)) ?_
                  refine ML.fork3 rfl rfl rfl rfl rfl rfl ?_ ?_ ?_ 
                  · refine opW.appendNil (α := Account) rfl hS rfl ((hl.bel hS.old)) (by (try simp only [List.length_append, List.length_cons, List.length_nil, List.length_map]); omega) (by simp only [maxLen]; (try simp only [List.length_append, List.length_cons, List.length_nil, List.length_map]); omega) ?_
                    intro v76 w hw hS
                    refine ⟨⟨_, hS.pick (e := blkE b9 (Enc.enc (Ready.withI { R with roles := s2 } s3)) 41) (by first | exact .h0 | exact .h1 | exact .h2 | exact .h3 | exact .h4 | exact .h5 | exact .h6 | exact .h7 | exact .h8 | exact .h9 | exact .h10 | exact .h11 | exact .h12 | exact .h13 | exact .h14)⟩, ?_⟩
                    refine ML.fork rfl rfl rfl rfl ?_ ?_ 
                    · refine opW.buildSl hS (([az] : List Account)) [.agg (Enc.enc az)] rfl rfl rfl rfl (by decide) ?_
                      intro b78 w hw hS
                      refine ⟨⟨_, hS.pick (e := blkE b9 (Enc.enc (Ready.withI { R with roles := s2 } s3)) 41) (by first | exact .h0 | exact .h1 | exact .h2 | exact .h3 | exact .h4 | exact .h5 | exact .h6 | exact .h7 | exact .h8 | exact .h9 | exact .h10 | exact .h11 | exact .h12 | exact .h13 | exact .h14)⟩, ?_⟩
                      refine ML.fork rfl rfl rfl rfl ?_ ?_ 
                      · refine opW.appendOwn (α := Account) (v := v76) (xs := l) (ys := [az]) rfl hS rfl (by first | exact .h0 | exact .h1 | exact .h2 | exact .h3 | exact .h4 | exact .h5 | exact .h6 | exact .h7 | exact .h8 | exact .h9 | exact .h10 | exact .h11 | exact .h12 | exact .h13 | exact .h14) (hS.sl (v := .slice (some ⟨b78, 0, none⟩) 1 1) (xs := ([az] : List Account)) (by first | exact .h0 | exact .h1 | exact .h2 | exact .h3 | exact .h4 | exact .h5 | exact .h6 | exact .h7 | exact .h8 | exact .h9 | exact .h10 | exact .h11 | exact .h12 | exact .h13 | exact .h14)) (by simp only [List.length_cons, List.length_nil]; omega) (by simp only [maxLen, List.length_cons, List.length_nil]; omega) ?_
                        intro v79 w hS; replace hS := hS _ (by first | exact .h0 | exact .h1 | exact .h2 | exact .h3 | exact .h4 | exact .h5 | exact .h6 | exact .h7 | exact .h8 | exact .h9 | exact .h10 | exact .h11 | exact .h12 | exact .h13 | exact .h14)
                        obtain ⟨s4, rfl⟩ := (hS.sl (v := v79) (xs := (l ++ [az])) (by first | exact .h0 | exact .h1 | exact .h2 | exact .h3 | exact .h4 | exact .h5 | exact .h6 | exact .h7 | exact .h8 | exact .h9 | exact .h10 | exact .h11 | exact .h12 | exact .h13 | exact .h14)).asV
                        refine ⟨⟨_, hS.pick (e := blkE b9 (Enc.enc (Ready.withI { R with roles := s2 } s3)) 41) (by first | exact .h0 | exact .h1 | exact .h2 | exact .h3 | exact .h4 | exact .h5 | exact .h6 | exact .h7 | exact .h8 | exact .h9 | exact .h10 | exact .h11 | exact .h12 | exact .h13 | exact .h14)⟩, ?_⟩
                        refine ML.fork rfl rfl rfl rfl ?_ ?_ 
                        · refine opW.call (run_any _ (Ready.withI { R with roles := s2 } s3) s4 (l ++ [az]) (r ++ [rhoB]) (ins ++ [(⟨(UInt8.ofNat r.length), ⟨none, 0, 0⟩, sd⟩ : Instr)]) (qs ++ [qB (UInt8.ofNat r.length) d]) (hg.bel hS.old) (hS.sl (v := s4.v) (xs := (l ++ [az])) (by first | exact .h0 | exact .h1 | exact .h2 | exact .h3 | exact .h4 | exact .h5 | exact .h6 | exact .h7 | exact .h8 | exact .h9 | exact .h10 | exact .h11 | exact .h12 | exact .h13 | exact .h14)) (hS.sl (v := s2.v) (xs := (r ++ [rhoB])) (by first | exact .h0 | exact .h1 | exact .h2 | exact .h3 | exact .h4 | exact .h5 | exact .h6 | exact .h7 | exact .h8 | exact .h9 | exact .h10 | exact .h11 | exact .h12 | exact .h13 | exact .h14)) (hS.sl (v := s3.v) (xs := (ins ++ [(⟨(UInt8.ofNat r.length), ⟨none, 0, 0⟩, sd⟩ : Instr)])) (by first | exact .h0 | exact .h1 | exact .h2 | exact .h3 | exact .h4 | exact .h5 | exact .h6 | exact .h7 | exact .h8 | exact .h9 | exact .h10 | exact .h11 | exact .h12 | exact .h13 | exact .h14)) (by simp [hql]) (hin_more hql (fun k h h2 => (hin k h h2).bel hS.old) ⟨rfl, SlR.nil _, hd.bel hS.old⟩) hbu2 (by simp; omega) (by simp; omega) hlw2) rfl ?_
                          rintro _ w ⟨o2, e2, ch2, rfl, hn80, hO2, hw⟩; replace hS := hS.newOwn hw hn80.1 hn80.2
                          obtain rfl : e2 = 0 := Classical.byContradiction fun h => absurd (hbad2.symm.trans (hO2.bad h).2.1) (by decide)
                          obtain ⟨_, sp, rfl, rfl⟩ := hO2.good rfl
                          refine ⟨⟨_, hS.pick (e := blkE b9 (Enc.enc (Ready.withI { R with roles := s2 } s3)) 41) (by first | exact .h0 | exact .h1 | exact .h2 | exact .h3 | exact .h4 | exact .h5 | exact .h6 | exact .h7 | exact .h8 | exact .h9 | exact .h10 | exact .h11 | exact .h12 | exact .h13 | exact .h14)⟩, ?_⟩
                          refine ML.look rfl rfl rfl (fun w hw => (by obtain ⟨S1, hS⟩ := hw; exact opW.moveV (v := .tuple #[.agg (Enc.enc (outF (Ready.withI { R with roles := s2 } s3) (r ++ [rhoB]) (qs ++ [qB (UInt8.ofNat r.length) d]) (l ++ [az]) sp)), .int .i64 0]) rfl ⟨rfl, rfl⟩)) ?_
                          refine ML.look rfl rfl rfl (fun w hw => (by obtain ⟨S1, hS⟩ := hw; exact opW.extract rfl rfl ⟨rfl, rfl⟩)) ?_
                          refine ML.look rfl rfl rfl (fun w hw => (by obtain ⟨S1, hS⟩ := hw; exact opW.extract rfl rfl ⟨rfl, rfl⟩)) ?_
                          refine ML.one rfl rfl rfl (opW.allocA hS ?_)
                          intro b10 w hw hS
                          refine ⟨⟨_, hS.pick (e := blkE b9 (Enc.enc (Ready.withI { R with roles := s2 } s3)) 41) (by first | exact .h0 | exact .h1 | exact .h2 | exact .h3 | exact .h4 | exact .h5 | exact .h6 | exact .h7 | exact .h8 | exact .h9 | exact .h10 | exact .h11 | exact .h12 | exact .h13 | exact .h14)⟩, ?_⟩
                          refine ML.one0 rfl rfl (opW.storeE hS rfl rfl (by first | exact .h0 | exact .h1 | exact .h2 | exact .h3 | exact .h4 | exact .h5 | exact .h6 | exact .h7 | exact .h8 | exact .h9 | exact .h10 | exact .h11 | exact .h12 | exact .h13 | exact .h14) (by first | rfl | exact Enc.size_eq _) ?_)
                          intro w hS; replace hS := hS _ (by first | exact .h0 | exact .h1 | exact .h2 | exact .h3 | exact .h4 | exact .h5 | exact .h6 | exact .h7 | exact .h8 | exact .h9 | exact .h10 | exact .h11 | exact .h12 | exact .h13 | exact .h14)
                          refine ⟨⟨_, hS.pick (e := blkE b9 (Enc.enc (Ready.withI { R with roles := s2 } s3)) 41) (by first | exact .h0 | exact .h1 | exact .h2 | exact .h3 | exact .h4 | exact .h5 | exact .h6 | exact .h7 | exact .h8 | exact .h9 | exact .h10 | exact .h11 | exact .h12 | exact .h13 | exact .h14)⟩, ?_⟩
                          refine ML.look rfl rfl rfl (fun w hw => (by obtain ⟨S1, hS⟩ := hw; exact opW.assignI rfl ⟨rfl, rfl⟩)) ?_
                          refine ML.nil ?_
                          refine thenQ_n ?_
                          exact ⟨b10, sp, ⟨rfl, rfl, rfl, rfl, trivial⟩, ((((((hS.pick (e := blkE b3 (Enc.enc R) 41) (by first | exact .h0 | exact .h1 | exact .h2 | exact .h3 | exact .h4 | exact .h5 | exact .h6 | exact .h7 | exact .h8 | exact .h9 | exact .h10 | exact .h11 | exact .h12 | exact .h13 | exact .h14)).pick (e := ownE (outF R r qs l so).changed.v 64 (chgF r (accF R r qs l))) (by first | exact .h0 | exact .h1 | exact .h2 | exact .h3 | exact .h4 | exact .h5 | exact .h6 | exact .h7 | exact .h8 | exact .h9 | exact .h10 | exact .h11 | exact .h12 | exact .h13 | exact .h14)).pick (e := blkE b7 (Enc.enc (outF R r qs l so)) 54) (by first | exact .h0 | exact .h1 | exact .h2 | exact .h3 | exact .h4 | exact .h5 | exact .h6 | exact .h7 | exact .h8 | exact .h9 | exact .h10 | exact .h11 | exact .h12 | exact .h13 | exact .h14)).pick (e := ownE (outF (Ready.withI { R with roles := s2 } s3) (r ++ [rhoB]) (qs ++ [qB (UInt8.ofNat r.length) d]) (l ++ [az]) sp).changed.v 64 (chgF (r ++ [rhoB]) (accF (Ready.withI { R with roles := s2 } s3) (r ++ [rhoB]) (qs ++ [qB (UInt8.ofNat r.length) d]) (l ++ [az])))) (by first | exact .h0 | exact .h1 | exact .h2 | exact .h3 | exact .h4 | exact .h5 | exact .h6 | exact .h7 | exact .h8 | exact .h9 | exact .h10 | exact .h11 | exact .h12 | exact .h13 | exact .h14)).pick (e := blkE b10 (Enc.enc (outF (Ready.withI { R with roles := s2 } s3) (r ++ [rhoB]) (qs ++ [qB (UInt8.ofNat r.length) d]) (l ++ [az]) sp)) 54) (by first | exact .h0 | exact .h1 | exact .h2 | exact .h3 | exact .h4 | exact .h5 | exact .h6 | exact .h7 | exact .h8 | exact .h9 | exact .h10 | exact .h11 | exact .h12 | exact .h13 | exact .h14)).sub (by repeat (first | with_reducible exact List.nil_sublist _ | with_reducible exact List.Sublist.refl _ | with_reducible refine List.Sublist.cons₂ _ ?_ | with_reducible refine List.Sublist.cons _ ?_)))⟩
                        · refine opW.allocA hS ?_
                          intro b10 w hw hS
                          refine ⟨⟨_, hS.pick (e := blkE b9 (Enc.enc (Ready.withI { R with roles := s2 } s3)) 41) (by first | exact .h0 | exact .h1 | exact .h2 | exact .h3 | exact .h4 | exact .h5 | exact .h6 | exact .h7 | exact .h8 | exact .h9 | exact .h10 | exact .h11 | exact .h12 | exact .h13 | exact .h14)⟩, ?_⟩
                          refine ML.one rfl rfl rfl (opW.call (run_any _ (Ready.withI { R with roles := s2 } s3) s4 (l ++ [az]) (r ++ [rhoB]) (ins ++ [(⟨(UInt8.ofNat r.length), ⟨none, 0, 0⟩, sd⟩ : Instr)]) (qs ++ [qB (UInt8.ofNat r.length) d]) (hg.bel hS.old) (hS.sl (v := s4.v) (xs := (l ++ [az])) (by first | exact .h0 | exact .h1 | exact .h2 | exact .h3 | exact .h4 | exact .h5 | exact .h6 | exact .h7 | exact .h8 | exact .h9 | exact .h10 | exact .h11 | exact .h12 | exact .h13 | exact .h14)) (hS.sl (v := s2.v) (xs := (r ++ [rhoB])) (by first | exact .h0 | exact .h1 | exact .h2 | exact .h3 | exact .h4 | exact .h5 | exact .h6 | exact .h7 | exact .h8 | exact .h9 | exact .h10 | exact .h11 | exact .h12 | exact .h13 | exact .h14)) (hS.sl (v := s3.v) (xs := (ins ++ [(⟨(UInt8.ofNat r.length), ⟨none, 0, 0⟩, sd⟩ : Instr)])) (by first | exact .h0 | exact .h1 | exact .h2 | exact .h3 | exact .h4 | exact .h5 | exact .h6 | exact .h7 | exact .h8 | exact .h9 | exact .h10 | exact .h11 | exact .h12 | exact .h13 | exact .h14)) (by simp [hql]) (hin_more hql (fun k h h2 => (hin k h h2).bel hS.old) ⟨rfl, SlR.nil _, hd.bel hS.old⟩) hbu2 (by simp; omega) (by simp; omega) hlw2) rfl ?_)
                          rintro _ w ⟨o2, e2, ch2, rfl, hn80, hO2, hw⟩; replace hS := hS.newOwn hw hn80.1 hn80.2
                          obtain rfl : e2 = 0 := Classical.byContradiction fun h => absurd (hbad2.symm.trans (hO2.bad h).2.1) (by decide)
                          obtain ⟨_, sp, rfl, rfl⟩ := hO2.good rfl
                          refine ⟨⟨_, hS.pick (e := blkE b9 (Enc.enc (Ready.withI { R with roles := s2 } s3)) 41) (by first | exact .h0 | exact .h1 | exact .h2 | exact .h3 | exact .h4 | exact .h5 | exact .h6 | exact .h7 | exact .h8 | exact .h9 | exact .h10 | exact .h11 | exact .h12 | exact .h13 | exact .h14)⟩, ?_⟩
                          refine ML.look rfl rfl rfl (fun w hw => (by obtain ⟨S1, hS⟩ := hw; exact opW.moveV (v := .tuple #[.agg (Enc.enc (outF (Ready.withI { R with roles := s2 } s3) (r ++ [rhoB]) (qs ++ [qB (UInt8.ofNat r.length) d]) (l ++ [az]) sp)), .int .i64 0]) rfl ⟨rfl, rfl⟩)) ?_
                          refine ML.look rfl rfl rfl (fun w hw => (by obtain ⟨S1, hS⟩ := hw; exact opW.extract rfl rfl ⟨rfl, rfl⟩)) ?_
                          refine ML.look rfl rfl rfl (fun w hw => (by obtain ⟨S1, hS⟩ := hw; exact opW.extract rfl rfl ⟨rfl, rfl⟩)) ?_
                          refine ML.one0 rfl rfl (opW.storeE hS rfl rfl (by first | exact .h0 | exact .h1 | exact .h2 | exact .h3 | exact .h4 | exact .h5 | exact .h6 | exact .h7 | exact .h8 | exact .h9 | exact .h10 | exact .h11 | exact .h12 | exact .h13 | exact .h14) (by first | rfl | exact Enc.size_eq _) ?_)
                          intro w hS; replace hS := hS _ (by first | exact .h0 | exact .h1 | exact .h2 | exact .h3 | exact .h4 | exact .h5 | exact .h6 | exact .h7 | exact .h8 | exact .h9 | exact .h10 | exact .h11 | exact .h12 | exact .h13 | exact .h14)
                          refine ⟨⟨_, hS.pick (e := blkE b9 (Enc.enc (Ready.withI { R with roles := s2 } s3)) 41) (by first | exact .h0 | exact .h1 | exact .h2 | exact .h3 | exact .h4 | exact .h5 | exact .h6 | exact .h7 | exact .h8 | exact .h9 | exact .h10 | exact .h11 | exact .h12 | exact .h13 | exact .h14)⟩, ?_⟩
                          refine ML.look rfl rfl rfl (fun w hw => (by obtain ⟨S1, hS⟩ := hw; exact opW.assignI rfl ⟨rfl, rfl⟩)) ?_
                          refine ML.nil ?_
                          refine thenQ_n ?_
                          exact ⟨b10, sp, ⟨rfl, rfl, rfl, rfl, trivial⟩, ((((((hS.pick (e := blkE b3 (Enc.enc R) 41) (by first | exact .h0 | exact .h1 | exact .h2 | exact .h3 | exact .h4 | exact .h5 | exact .h6 | exact .h7 | exact .h8 | exact .h9 | exact .h10 | exact .h11 | exact .h12 | exact .h13 | exact .h14)).pick (e := ownE (outF R r qs l so).changed.v 64 (chgF r (accF R r qs l))) (by first | exact .h0 | exact .h1 | exact .h2 | exact .h3 | exact .h4 | exact .h5 | exact .h6 | exact .h7 | exact .h8 | exact .h9 | exact .h10 | exact .h11 | exact .h12 | exact .h13 | exact .h14)).pick (e := blkE b7 (Enc.enc (outF R r qs l so)) 54) (by first | exact .h0 | exact .h1 | exact .h2 | exact .h3 | exact .h4 | exact .h5 | exact .h6 | exact .h7 | exact .h8 | exact .h9 | exact .h10 | exact .h11 | exact .h12 | exact .h13 | exact .h14)).pick (e := ownE (outF (Ready.withI { R with roles := s2 } s3) (r ++ [rhoB]) (qs ++ [qB (UInt8.ofNat r.length) d]) (l ++ [az]) sp).changed.v 64 (chgF (r ++ [rhoB]) (accF (Ready.withI { R with roles := s2 } s3) (r ++ [rhoB]) (qs ++ [qB (UInt8.ofNat r.length) d]) (l ++ [az])))) (by first | exact .h0 | exact .h1 | exact .h2 | exact .h3 | exact .h4 | exact .h5 | exact .h6 | exact .h7 | exact .h8 | exact .h9 | exact .h10 | exact .h11 | exact .h12 | exact .h13 | exact .h14)).pick (e := blkE b10 (Enc.enc (outF (Ready.withI { R with roles := s2 } s3) (r ++ [rhoB]) (qs ++ [qB (UInt8.ofNat r.length) d]) (l ++ [az]) sp)) 54) (by first | exact .h0 | exact .h1 | exact .h2 | exact .h3 | exact .h4 | exact .h5 | exact .h6 | exact .h7 | exact .h8 | exact .h9 | exact .h10 | exact .h11 | exact .h12 | exact .h13 | exact .h14)).sub (by repeat (first | with_reducible exact List.nil_sublist _ | with_reducible exact List.Sublist.refl _ | with_reducible refine List.Sublist.cons₂ _ ?_ | with_reducible refine List.Sublist.cons _ ?_)))⟩
                      · refine opW.allocA hS ?_
                        intro b10 w hw hS
                        refine ⟨⟨_, hS.pick (e := blkE b9 (Enc.enc (Ready.withI { R with roles := s2 } s3)) 41) (by first | exact .h0 | exact .h1 | exact .h2 | exact .h3 | exact .h4 | exact .h5 | exact .h6 | exact .h7 | exact .h8 | exact .h9 | exact .h10 | exact .h11 | exact .h12 | exact .h13 | exact .h14)⟩, ?_⟩
                        refine ML.one rfl rfl rfl (opW.appendOwn (α := Account) (v := v76) (xs := l) (ys := [az]) rfl hS rfl (by first | exact .h0 | exact .h1 | exact .h2 | exact .h3 | exact .h4 | exact .h5 | exact .h6 | exact .h7 | exact .h8 | exact .h9 | exact .h10 | exact .h11 | exact .h12 | exact .h13 | exact .h14) (hS.sl (v := .slice (some ⟨b78, 0, none⟩) 1 1) (xs := ([az] : List Account)) (by first | exact .h0 | exact .h1 | exact .h2 | exact .h3 | exact .h4 | exact .h5 | exact .h6 | exact .h7 | exact .h8 | exact .h9 | exact .h10 | exact .h11 | exact .h12 | exact .h13 | exact .h14)) (by simp only [List.length_cons, List.length_nil]; omega) (by simp only [maxLen, List.length_cons, List.length_nil]; omega) ?_)
                        intro v79 w hS; replace hS := hS _ (by first | exact .h0 | exact .h1 | exact .h2 | exact .h3 | exact .h4 | exact .h5 | exact .h6 | exact .h7 | exact .h8 | exact .h9 | exact .h10 | exact .h11 | exact .h12 | exact .h13 | exact .h14)
                        obtain ⟨s4, rfl⟩ := (hS.sl (v := v79) (xs := (l ++ [az])) (by first | exact .h0 | exact .h1 | exact .h2 | exact .h3 | exact .h4 | exact .h5 | exact .h6 | exact .h7 | exact .h8 | exact .h9 | exact .h10 | exact .h11 | exact .h12 | exact .h13 | exact .h14)).asV
                        refine ⟨⟨_, hS.pick (e := blkE b9 (Enc.enc (Ready.withI { R with roles := s2 } s3)) 41) (by first | exact .h0 | exact .h1 | exact .h2 | exact .h3 | exact .h4 | exact .h5 | exact .h6 | exact .h7 | exact .h8 | exact .h9 | exact .h10 | exact .h11 | exact .h12 | exact .h13 | exact .h14)⟩, ?_⟩
                        refine ML.one rfl rfl rfl (opW.call (run_any _ (Ready.withI { R with roles := s2 } s3) s4 (l ++ [az]) (r ++ [rhoB]) (ins ++ [(⟨(UInt8.ofNat r.length), ⟨none, 0, 0⟩, sd⟩ : Instr)]) (qs ++ [qB (UInt8.ofNat r.length) d]) (hg.bel hS.old) (hS.sl (v := s4.v) (xs := (l ++ [az])) (by first | exact .h0 | exact .h1 | exact .h2 | exact .h3 | exact .h4 | exact .h5 | exact .h6 | exact .h7 | exact .h8 | exact .h9 | exact .h10 | exact .h11 | exact .h12 | exact .h13 | exact .h14)) (hS.sl (v := s2.v) (xs := (r ++ [rhoB])) (by first | exact .h0 | exact .h1 | exact .h2 | exact .h3 | exact .h4 | exact .h5 | exact .h6 | exact .h7 | exact .h8 | exact .h9 | exact .h10 | exact .h11 | exact .h12 | exact .h13 | exact .h14)) (hS.sl (v := s3.v) (xs := (ins ++ [(⟨(UInt8.ofNat r.length), ⟨none, 0, 0⟩, sd⟩ : Instr)])) (by first | exact .h0 | exact .h1 | exact .h2 | exact .h3 | exact .h4 | exact .h5 | exact .h6 | exact .h7 | exact .h8 | exact .h9 | exact .h10 | exact .h11 | exact .h12 | exact .h13 | exact .h14)) (by simp [hql]) (hin_more hql (fun k h h2 => (hin k h h2).bel hS.old) ⟨rfl, SlR.nil _, hd.bel hS.old⟩) hbu2 (by simp; omega) (by simp; omega) hlw2) rfl ?_)
                        rintro _ w ⟨o2, e2, ch2, rfl, hn80, hO2, hw⟩; replace hS := hS.newOwn hw hn80.1 hn80.2
                        obtain rfl : e2 = 0 := Classical.byContradiction fun h => absurd (hbad2.symm.trans (hO2.bad h).2.1) (by decide)
                        obtain ⟨_, sp, rfl, rfl⟩ := hO2.good rfl
                        refine ⟨⟨_, hS.pick (e := blkE b9 (Enc.enc (Ready.withI { R with roles := s2 } s3)) 41) (by first | exact .h0 | exact .h1 | exact .h2 | exact .h3 | exact .h4 | exact .h5 | exact .h6 | exact .h7 | exact .h8 | exact .h9 | exact .h10 | exact .h11 | exact .h12 | exact .h13 | exact .h14)⟩, ?_⟩
                        refine ML.look rfl rfl rfl (fun w hw => (by obtain ⟨S1, hS⟩ := hw; exact opW.moveV (v := .tuple #[.agg (Enc.enc (outF (Ready.withI { R with roles := s2 } s3) (r ++ [rhoB]) (qs ++ [qB (UInt8.ofNat r.length) d]) (l ++ [az]) sp)), .int .i64 0]) rfl ⟨rfl, rfl⟩)) ?_
                        refine ML.look rfl rfl rfl (fun w hw => (by obtain ⟨S1, hS⟩ := hw; exact opW.extract rfl rfl ⟨rfl, rfl⟩)) ?_
                        refine ML.look rfl rfl rfl (fun w hw => (by obtain ⟨S1, hS⟩ := hw; exact opW.extract rfl rfl ⟨rfl, rfl⟩)) ?_
                        refine ML.one0 rfl rfl (opW.storeE hS rfl rfl (by first | exact .h0 | exact .h1 | exact .h2 | exact .h3 | exact .h4 | exact .h5 | exact .h6 | exact .h7 | exact .h8 | exact .h9 | exact .h10 | exact .h11 | exact .h12 | exact .h13 | exact .h14) (by first | rfl | exact Enc.size_eq _) ?_)
                        intro w hS; replace hS := hS _ (by first | exact .h0 | exact .h1 | exact .h2 | exact .h3 | exact .h4 | exact .h5 | exact .h6 | exact .h7 | exact .h8 | exact .h9 | exact .h10 | exact .h11 | exact .h12 | exact .h13 | exact .h14)
                        refine ⟨⟨_, hS.pick (e := blkE b9 (Enc.enc (Ready.withI { R with roles := s2 } s3)) 41) (by first | exact .h0 | exact .h1 | exact .h2 | exact .h3 | exact .h4 | exact .h5 | exact .h6 | exact .h7 | exact .h8 | exact .h9 | exact .h10 | exact .h11 | exact .h12 | exact .h13 | exact .h14)⟩, ?_⟩
                        refine ML.look rfl rfl rfl (fun w hw => (by obtain ⟨S1, hS⟩ := hw; exact opW.assignI rfl ⟨rfl, rfl⟩)) ?_
                        refine ML.nil ?_
                        refine thenQ_n ?_
                        exact ⟨b10, sp, ⟨rfl, rfl, rfl, rfl, trivial⟩, ((((((hS.pick (e := blkE b3 (Enc.enc R) 41) (by first | exact .h0 | exact .h1 | exact .h2 | exact .h3 | exact .h4 | exact .h5 | exact .h6 | exact .h7 | exact .h8 | exact .h9 | exact .h10 | exact .h11 | exact .h12 | exact .h13 | exact .h14)).pick (e := ownE (outF R r qs l so).changed.v 64 (chgF r (accF R r qs l))) (by first | exact .h0 | exact .h1 | exact .h2 | exact .h3 | exact .h4 | exact .h5 | exact .h6 | exact .h7 | exact .h8 | exact .h9 | exact .h10 | exact .h11 | exact .h12 | exact .h13 | exact .h14)).pick (e := blkE b7 (Enc.enc (outF R r qs l so)) 54) (by first | exact .h0 | exact .h1 | exact .h2 | exact .h3 | exact .h4 | exact .h5 | exact .h6 | exact .h7 | exact .h8 | exact .h9 | exact .h10 | exact .h11 | exact .h12 | exact .h13 | exact .h14)).pick (e := ownE (outF (Ready.withI { R with roles := s2 } s3) (r ++ [rhoB]) (qs ++ [qB (UInt8.ofNat r.length) d]) (l ++ [az]) sp).changed.v 64 (chgF (r ++ [rhoB]) (accF (Ready.withI { R with roles := s2 } s3) (r ++ [rhoB]) (qs ++ [qB (UInt8.ofNat r.length) d]) (l ++ [az])))) (by first | exact .h0 | exact .h1 | exact .h2 | exact .h3 | exact .h4 | exact .h5 | exact .h6 | exact .h7 | exact .h8 | exact .h9 | exact .h10 | exact .h11 | exact .h12 | exact .h13 | exact .h14)).pick (e := blkE b10 (Enc.enc (outF (Ready.withI { R with roles := s2 } s3) (r ++ [rhoB]) (qs ++ [qB (UInt8.ofNat r.length) d]) (l ++ [az]) sp)) 54) (by first | exact .h0 | exact .h1 | exact .h2 | exact .h3 | exact .h4 | exact .h5 | exact .h6 | exact .h7 | exact .h8 | exact .h9 | exact .h10 | exact .h11 | exact .h12 | exact .h13 | exact .h14)).sub (by repeat (first | with_reducible exact List.nil_sublist _ | with_reducible exact List.Sublist.refl _ | with_reducible refine List.Sublist.cons₂ _ ?_ | with_reducible refine List.Sublist.cons _ ?_)))⟩
                    · refine opW.allocA hS ?_
                      intro b10 w hw hS
                      refine ⟨⟨_, hS.pick (e := blkE b9 (Enc.enc (Ready.withI { R with roles := s2 } s3)) 41) (by first | exact .h0 | exact .h1 | exact .h2 | exact .h3 | exact .h4 | exact .h5 | exact .h6 | exact .h7 | exact .h8 | exact .h9 | exact .h10 | exact .h11 | exact .h12 | exact .h13 | exact .h14)⟩, ?_⟩
                      refine ML.one rfl rfl rfl (opW.buildSl hS (([az] : List Account)) [.agg (Enc.enc az)] rfl rfl rfl rfl (by decide) ?_)
                      intro b78 w hw hS
                      refine ⟨⟨_, hS.pick (e := blkE b9 (Enc.enc (Ready.withI { R with roles := s2 } s3)) 41) (by first | exact .h0 | exact .h1 | exact .h2 | exact .h3 | exact .h4 | exact .h5 | exact .h6 | exact .h7 | exact .h8 | exact .h9 | exact .h10 | exact .h11 | exact .h12 | exact .h13 | exact .h14)⟩, ?_⟩
                      refine ML.one rfl rfl rfl (opW.appendOwn (α := Account) (v := v76) (xs := l) (ys := [az]) rfl hS rfl (by first | exact .h0 | exact .h1 | exact .h2 | exact .h3 | exact .h4 | exact .h5 | exact .h6 | exact .h7 | exact .h8 | exact .h9 | exact .h10 | exact .h11 | exact .h12 | exact .h13 | exact .h14) (hS.sl (v := .slice (some ⟨b78, 0, none⟩) 1 1) (xs := ([az] : List Account)) (by first | exact .h0 | exact .h1 | exact .h2 | exact .h3 | exact .h4 | exact .h5 | exact .h6 | exact .h7 | exact .h8 | exact .h9 | exact .h10 | exact .h11 | exact .h12 | exact .h13 | exact .h14)) (by simp only [List.length_cons, List.length_nil]; omega) (by simp only [maxLen, List.length_cons, List.length_nil]; omega) ?_)
                      intro v79 w hS; replace hS := hS _ (by first | exact .h0 | exact .h1 | exact .h2 | exact .h3 | exact .h4 | exact .h5 | exact .h6 | exact .h7 | exact .h8 | exact .h9 | exact .h10 | exact .h11 | exact .h12 | exact .h13 | exact .h14)
                      obtain ⟨s4, rfl⟩ := (hS.sl (v := v79) (xs := (l ++ [az])) (by first | exact .h0 | exact .h1 | exact .h2 | exact .h3 | exact .h4 | exact .h5 | exact .h6 | exact .h7 | exact .h8 | exact .h9 | exact .h10 | exact .h11 | exact .h12 | exact .h13 | exact .h14)).asV
                      refine ⟨⟨_, hS.pick (e := blkE b9 (Enc.enc (Ready.withI { R with roles := s2 } s3)) 41) (by first | exact .h0 | exact .h1 | exact .h2 | exact .h3 | exact .h4 | exact .h5 | exact .h6 | exact .h7 | exact .h8 | exact .h9 | exact .h10 | exact .h11 | exact .h12 | exact .h13 | exact .h14)⟩, ?_⟩
                      refine ML.one rfl rfl rfl (opW.call (run_any _ (Ready.withI { R with roles := s2 } s3) s4 (l ++ [az]) (r ++ [rhoB]) (ins ++ [(⟨(UInt8.ofNat r.length), ⟨none, 0, 0⟩, sd⟩ : Instr)]) (qs ++ [qB (UInt8.ofNat r.length) d]) (hg.bel hS.old) (hS.sl (v := s4.v) (xs := (l ++ [az])) (by first | exact .h0 | exact .h1 | exact .h2 | exact .h3 | exact .h4 | exact .h5 | exact .h6 | exact .h7 | exact .h8 | exact .h9 | exact .h10 | exact .h11 | exact .h12 | exact .h13 | exact .h14)) (hS.sl (v := s2.v) (xs := (r ++ [rhoB])) (by first | exact .h0 | exact .h1 | exact .h2 | exact .h3 | exact .h4 | exact .h5 | exact .h6 | exact .h7 | exact .h8 | exact .h9 | exact .h10 | exact .h11 | exact .h12 | exact .h13 | exact .h14)) (hS.sl (v := s3.v) (xs := (ins ++ [(⟨(UInt8.ofNat r.length), ⟨none, 0, 0⟩, sd⟩ : Instr)])) (by first | exact .h0 | exact .h1 | exact .h2 | exact .h3 | exact .h4 | exact .h5 | exact .h6 | exact .h7 | exact .h8 | exact .h9 | exact .h10 | exact .h11 | exact .h12 | exact .h13 | exact .h14)) (by simp [hql]) (hin_more hql (fun k h h2 => (hin k h h2).bel hS.old) ⟨rfl, SlR.nil _, hd.bel hS.old⟩) hbu2 (by simp; omega) (by simp; omega) hlw2) rfl ?_)
                      rintro _ w ⟨o2, e2, ch2, rfl, hn80, hO2, hw⟩; replace hS := hS.newOwn hw hn80.1 hn80.2
                      obtain rfl : e2 = 0 := Classical.byContradiction fun h => absurd (hbad2.symm.trans (hO2.bad h).2.1) (by decide)
                      obtain ⟨_, sp, rfl, rfl⟩ := hO2.good rfl
                      refine ⟨⟨_, hS.pick (e := blkE b9 (Enc.enc (Ready.withI { R with roles := s2 } s3)) 41) (by first | exact .h0 | exact .h1 | exact .h2 | exact .h3 | exact .h4 | exact .h5 | exact .h6 | exact .h7 | exact .h8 | exact .h9 | exact .h10 | exact .h11 | exact .h12 | exact .h13 | exact .h14)⟩, ?_⟩
                      refine ML.look rfl rfl rfl (fun w hw => (by obtain ⟨S1, hS⟩ := hw; exact opW.moveV (v := .tuple #[.agg (Enc.enc (outF (Ready.withI { R with roles := s2 } s3) (r ++ [rhoB]) (qs ++ [qB (UInt8.ofNat r.length) d]) (l ++ [az]) sp)), .int .i64 0]) rfl ⟨rfl, rfl⟩)) ?_
                      refine ML.look rfl rfl rfl (fun w hw => (by obtain ⟨S1, hS⟩ := hw; exact opW.extract rfl rfl ⟨rfl, rfl⟩)) ?_
                      refine ML.look rfl rfl rfl (fun w hw => (by obtain ⟨S1, hS⟩ := hw; exact opW.extract rfl rfl ⟨rfl, rfl⟩)) ?_
                      refine ML.one0 rfl rfl (opW.storeE hS rfl rfl (by first | exact .h0 | exact .h1 | exact .h2 | exact .h3 | exact .h4 | exact .h5 | exact .h6 | exact .h7 | exact .h8 | exact .h9 | exact .h10 | exact .h11 | exact .h12 | exact .h13 | exact .h14) (by first | rfl | exact Enc.size_eq _) ?_)
                      intro w hS; replace hS := hS _ (by first | exact .h0 | exact .h1 | exact .h2 | exact .h3 | exact .h4 | exact .h5 | exact .h6 | exact .h7 | exact .h8 | exact .h9 | exact .h10 | exact .h11 | exact .h12 | exact .h13 | exact .h14)
                      refine ⟨⟨_, hS.pick (e := blkE b9 (Enc.enc (Ready.withI { R with roles := s2 } s3)) 41) (by first | exact .h0 | exact .h1 | exact .h2 | exact .h3 | exact .h4 | exact .h5 | exact .h6 | exact .h7 | exact .h8 | exact .h9 | exact .h10 | exact .h11 | exact .h12 | exact .h13 | exact .h14)⟩, ?_⟩
                      refine ML.look rfl rfl rfl (fun w hw => (by obtain ⟨S1, hS⟩ := hw; exact opW.assignI rfl ⟨rfl, rfl⟩)) ?_
                      refine ML.nil ?_
                      refine thenQ_n ?_
                      exact ⟨b10, sp, ⟨rfl, rfl, rfl, rfl, trivial⟩, ((((((hS.pick (e := blkE b3 (Enc.enc R) 41) (by first | exact .h0 | exact .h1 | exact .h2 | exact .h3 | exact .h4 | exact .h5 | exact .h6 | exact .h7 | exact .h8 | exact .h9 | exact .h10 | exact .h11 | exact .h12 | exact .h13 | exact .h14)).pick (e := ownE (outF R r qs l so).changed.v 64 (chgF r (accF R r qs l))) (by first | exact .h0 | exact .h1 | exact .h2 | exact .h3 | exact .h4 | exact .h5 | exact .h6 | exact .h7 | exact .h8 | exact .h9 | exact .h10 | exact .h11 | exact .h12 | exact .h13 | exact .h14)).pick (e := blkE b7 (Enc.enc (outF R r qs l so)) 54) (by first | exact .h0 | exact .h1 | exact .h2 | exact .h3 | exact .h4 | exact .h5 | exact .h6 | exact .h7 | exact .h8 | exact .h9 | exact .h10 | exact .h11 | exact .h12 | exact .h13 | exact .h14)).pick (e := ownE (outF (Ready.withI { R with roles := s2 } s3) (r ++ [rhoB]) (qs ++ [qB (UInt8.ofNat r.length) d]) (l ++ [az]) sp).changed.v 64 (chgF (r ++ [rhoB]) (accF (Ready.withI { R with roles := s2 } s3) (r ++ [rhoB]) (qs ++ [qB (UInt8.ofNat r.length) d]) (l ++ [az])))) (by first | exact .h0 | exact .h1 | exact .h2 | exact .h3 | exact .h4 | exact .h5 | exact .h6 | exact .h7 | exact .h8 | exact .h9 | exact .h10 | exact .h11 | exact .h12 | exact .h13 | exact .h14)).pick (e := blkE b10 (Enc.enc (outF (Ready.withI { R with roles := s2 } s3) (r ++ [rhoB]) (qs ++ [qB (UInt8.ofNat r.length) d]) (l ++ [az]) sp)) 54) (by first | exact .h0 | exact .h1 | exact .h2 | exact .h3 | exact .h4 | exact .h5 | exact .h6 | exact .h7 | exact .h8 | exact .h9 | exact .h10 | exact .h11 | exact .h12 | exact .h13 | exact .h14)).sub (by repeat (first | with_reducible exact List.nil_sublist _ | with_reducible exact List.Sublist.refl _ | with_reducible refine List.Sublist.cons₂ _ ?_ | with_reducible refine List.Sublist.cons _ ?_)))⟩
                  · refine opW.buildSl hS (([az] : List Account)) [.agg (Enc.enc az)] rfl rfl rfl rfl (by decide) ?_
                    intro b78 w hw hS
                    refine ⟨⟨_, hS.pick (e := blkE b9 (Enc.enc (Ready.withI { R with roles := s2 } s3)) 41) (by first | exact .h0 | exact .h1 | exact .h2 | exact .h3 | exact .h4 | exact .h5 | exact .h6 | exact .h7 | exact .h8 | exact .h9 | exact .h10 | exact .h11 | exact .h12 | exact .h13 | exact .h14)⟩, ?_⟩
                    refine ML.fork rfl rfl rfl rfl ?_ ?_ 
                    · refine opW.appendNil (α := Account) rfl hS rfl ((hl.bel hS.old)) (by (try simp only [List.length_append, List.length_cons, List.length_nil, List.length_map]); omega) (by simp only [maxLen]; (try simp only [List.length_append, List.length_cons, List.length_nil, List.length_map]); omega) ?_
                      intro v76 w hw hS
                      refine ⟨⟨_, hS.pick (e := blkE b9 (Enc.enc (Ready.withI { R with roles := s2 } s3)) 41) (by first | exact .h0 | exact .h1 | exact .h2 | exact .h3 | exact .h4 | exact .h5 | exact .h6 | exact .h7 | exact .h8 | exact .h9 | exact .h10 | exact .h11 | exact .h12 | exact .h13 | exact .h14)⟩, ?_⟩
                      refine ML.fork rfl rfl rfl rfl ?_ ?_ 
                      · refine opW.appendOwn (α := Account) (v := v76) (xs := l) (ys := [az]) rfl hS rfl (by first | exact .h0 | exact .h1 | exact .h2 | exact .h3 | exact .h4 | exact .h5 | exact .h6 | exact .h7 | exact .h8 | exact .h9 | exact .h10 | exact .h11 | exact .h12 | exact .h13 | exact .h14) (hS.sl (v := .slice (some ⟨b78, 0, none⟩) 1 1) (xs := ([az] : List Account)) (by first | exact .h0 | exact .h1 | exact .h2 | exact .h3 | exact .h4 | exact .h5 | exact .h6 | exact .h7 | exact .h8 | exact .h9 | exact .h10 | exact .h11 | exact .h12 | exact .h13 | exact .h14)) (by simp only [List.length_cons, List.length_nil]; omega) (by simp only [maxLen, List.length_cons, List.length_nil]; omega) ?_
                        intro v79 w hS; replace hS := hS _ (by first | exact .h0 | exact .h1 | exact .h2 | exact .h3 | exact .h4 | exact .h5 | exact .h6 | exact .h7 | exact .h8 | exact .h9 | exact .h10 | exact .h11 | exact .h12 | exact .h13 | exact .h14)
                        obtain ⟨s4, rfl⟩ := (hS.sl (v := v79) (xs := (l ++ [az])) (by first | exact .h0 | exact .h1 | exact .h2 | exact .h3 | exact .h4 | exact .h5 | exact .h6 | exact .h7 | exact .h8 | exact .h9 | exact .h10 | exact .h11 | exact .h12 | exact .h13 | exact .h14)).asV
                        refine ⟨⟨_, hS.pick (e := blkE b9 (Enc.enc (Ready.withI { R with roles := s2 } s3)) 41) (by first | exact .h0 | exact .h1 | exact .h2 | exact .h3 | exact .h4 | exact .h5 | exact .h6 | exact .h7 | exact .h8 | exact .h9 | exact .h10 | exact .h11 | exact .h12 | exact .h13 | exact .h14)⟩, ?_⟩
                        refine ML.fork rfl rfl rfl rfl ?_ ?_ 
                        · refine opW.call (run_any _ (Ready.withI { R with roles := s2 } s3) s4 (l ++ [az]) (r ++ [rhoB]) (ins ++ [(⟨(UInt8.ofNat r.length), ⟨none, 0, 0⟩, sd⟩ : Instr)]) (qs ++ [qB (UInt8.ofNat r.length) d]) (hg.bel hS.old) (hS.sl (v := s4.v) (xs := (l ++ [az])) (by first | exact .h0 | exact .h1 | exact .h2 | exact .h3 | exact .h4 | exact .h5 | exact .h6 | exact .h7 | exact .h8 | exact .h9 | exact .h10 | exact .h11 | exact .h12 | exact .h13 | exact .h14)) (hS.sl (v := s2.v) (xs := (r ++ [rhoB])) (by first | exact .h0 | exact .h1 | exact .h2 | exact .h3 | exact .h4 | exact .h5 | exact .h6 | exact .h7 | exact .h8 | exact .h9 | exact .h10 | exact .h11 | exact .h12 | exact .h13 | exact .h14)) (hS.sl (v := s3.v) (xs := (ins ++ [(⟨(UInt8.ofNat r.length), ⟨none, 0, 0⟩, sd⟩ : Instr)])) (by first | exact .h0 | exact .h1 | exact .h2 | exact .h3 | exact .h4 | exact .h5 | exact .h6 | exact .h7 | exact .h8 | exact .h9 | exact .h10 | exact .h11 | exact .h12 | exact .h13 | exact .h14)) (by simp [hql]) (hin_more hql (fun k h h2 => (hin k h h2).bel hS.old) ⟨rfl, SlR.nil _, hd.bel hS.old⟩) hbu2 (by simp; omega) (by simp; omega) hlw2) rfl ?_
                          rintro _ w ⟨o2, e2, ch2, rfl, hn80, hO2, hw⟩; replace hS := hS.newOwn hw hn80.1 hn80.2
                          obtain rfl : e2 = 0 := Classical.byContradiction fun h => absurd (hbad2.symm.trans (hO2.bad h).2.1) (by decide)
                          obtain ⟨_, sp, rfl, rfl⟩ := hO2.good rfl
                          refine ⟨⟨_, hS.pick (e := blkE b9 (Enc.enc (Ready.withI { R with roles := s2 } s3)) 41) (by first | exact .h0 | exact .h1 | exact .h2 | exact .h3 | exact .h4 | exact .h5 | exact .h6 | exact .h7 | exact .h8 | exact .h9 | exact .h10 | exact .h11 | exact .h12 | exact .h13 | exact .h14)⟩, ?_⟩
                          refine ML.look rfl rfl rfl (fun w hw => (by obtain ⟨S1, hS⟩ := hw; exact opW.moveV (v := .tuple #[.agg (Enc.enc (outF (Ready.withI { R with roles := s2 } s3) (r ++ [rhoB]) (qs ++ [qB (UInt8.ofNat r.length) d]) (l ++ [az]) sp)), .int .i64 0]) rfl ⟨rfl, rfl⟩)) ?_
                          refine ML.look rfl rfl rfl (fun w hw => (by obtain ⟨S1, hS⟩ := hw; exact opW.extract rfl rfl ⟨rfl, rfl⟩)) ?_
                          refine ML.look rfl rfl rfl (fun w hw => (by obtain ⟨S1, hS⟩ := hw; exact opW.extract rfl rfl ⟨rfl, rfl⟩)) ?_
                          refine ML.one rfl rfl rfl (opW.allocA hS ?_)
                          intro b10 w hw hS
                          refine ⟨⟨_, hS.pick (e := blkE b9 (Enc.enc (Ready.withI { R with roles := s2 } s3)) 41) (by first | exact .h0 | exact .h1 | exact .h2 | exact .h3 | exact .h4 | exact .h5 | exact .h6 | exact .h7 | exact .h8 | exact .h9 | exact .h10 | exact .h11 | exact .h12 | exact .h13 | exact .h14)⟩, ?_⟩
                          refine ML.one0 rfl rfl (opW.storeE hS rfl rfl (by first | exact .h0 | exact .h1 | exact .h2 | exact .h3 | exact .h4 | exact .h5 | exact .h6 | exact .h7 | exact .h8 | exact .h9 | exact .h10 | exact .h11 | exact .h12 | exact .h13 | exact .h14) (by first | rfl | exact Enc.size_eq _) ?_)
                          intro w hS; replace hS := hS _ (by first | exact .h0 | exact .h1 | exact .h2 | exact .h3 | exact .h4 | exact .h5 | exact .h6 | exact .h7 | exact .h8 | exact .h9 | exact .h10 | exact .h11 | exact .h12 | exact .h13 | exact .h14)
                          refine ⟨⟨_, hS.pick (e := blkE b9 (Enc.enc (Ready.withI { R with roles := s2 } s3)) 41) (by first | exact .h0 | exact .h1 | exact .h2 | exact .h3 | exact .h4 | exact .h5 | exact .h6 | exact .h7 | exact .h8 | exact .h9 | exact .h10 | exact .h11 | exact .h12 | exact .h13 | exact .h14)⟩, ?_⟩
                          refine ML.look rfl rfl rfl (fun w hw => (by obtain ⟨S1, hS⟩ := hw; exact opW.assignI rfl ⟨rfl, rfl⟩)) ?_
                          refine ML.nil ?_
                          refine thenQ_n ?_
                          exact ⟨b10, sp, ⟨rfl, rfl, rfl, rfl, trivial⟩, ((((((hS.pick (e := blkE b3 (Enc.enc R) 41) (by first | exact .h0 | exact .h1 | exact .h2 | exact .h3 | exact .h4 | exact .h5 | exact .h6 | exact .h7 | exact .h8 | exact .h9 | exact .h10 | exact .h11 | exact .h12 | exact .h13 | exact .h14)).pick (e := ownE (outF R r qs l so).changed.v 64 (chgF r (accF R r qs l))) (by first | exact .h0 | exact .h1 | exact .h2 | exact .h3 | exact .h4 | exact .h5 | exact .h6 | exact .h7 | exact .h8 | exact .h9 | exact .h10 | exact .h11 | exact .h12 | exact .h13 | exact .h14)).pick (e := blkE b7 (Enc.enc (outF R r qs l so)) 54) (by first | exact .h0 | exact .h1 | exact .h2 | exact .h3 | exact .h4 | exact .h5 | exact .h6 | exact .h7 | exact .h8 | exact .h9 | exact .h10 | exact .h11 | exact .h12 | exact .h13 | exact .h14)).pick (e := ownE (outF (Ready.withI { R with roles := s2 } s3) (r ++ [rhoB]) (qs ++ [qB (UInt8.ofNat r.length) d]) (l ++ [az]) sp).changed.v 64 (chgF (r ++ [rhoB]) (accF (Ready.withI { R with roles := s2 } s3) (r ++ [rhoB]) (qs ++ [qB (UInt8.ofNat r.length) d]) (l ++ [az])))) (by first | exact .h0 | exact .h1 | exact .h2 | exact .h3 | exact .h4 | exact .h5 | exact .h6 | exact .h7 | exact .h8 | exact .h9 | exact .h10 | exact .h11 | exact .h12 | exact .h13 | exact .h14)).pick (e := blkE b10 (Enc.enc (outF (Ready.withI { R with roles := s2 } s3) (r ++ [rhoB]) (qs ++ [qB (UInt8.ofNat r.length) d]) (l ++ [az]) sp)) 54) (by first | exact .h0 | exact .h1 | exact .h2 | exact .h3 | exact .h4 | exact .h5 | exact .h6 | exact .h7 | exact .h8 | exact .h9 | exact .h10 | exact .h11 | exact .h12 | exact .h13 | exact .h14)).sub (by repeat (first | with_reducible exact List.nil_sublist _ | with_reducible exact List.Sublist.refl _ | with_reducible refine List.Sublist.cons₂ _ ?_ | with_reducible refine List.Sublist.cons _ ?_)))⟩
                        · refine opW.allocA hS ?_
                          intro b10 w hw hS
                          refine ⟨⟨_, hS.pick (e := blkE b9 (Enc.enc (Ready.withI { R with roles := s2 } s3)) 41) (by first | exact .h0 | exact .h1 | exact .h2 | exact .h3 | exact .h4 | exact .h5 | exact .h6 | exact .h7 | exact .h8 | exact .h9 | exact .h10 | exact .h11 | exact .h12 | exact .h13 | exact .h14)⟩, ?_⟩
                          refine ML.one rfl rfl rfl (opW.call (run_any _ (Ready.withI { R with roles := s2 } s3) s4 (l ++ [az]) (r ++ [rhoB]) (ins ++ [(⟨(UInt8.ofNat r.length), ⟨none, 0, 0⟩, sd⟩ : Instr)]) (qs ++ [qB (UInt8.ofNat r.length) d]) (hg.bel hS.old) (hS.sl (v := s4.v) (xs := (l ++ [az])) (by first | exact .h0 | exact .h1 | exact .h2 | exact .h3 | exact .h4 | exact .h5 | exact .h6 | exact .h7 | exact .h8 | exact .h9 | exact .h10 | exact .h11 | exact .h12 | exact .h13 | exact .h14)) (hS.sl (v := s2.v) (xs := (r ++ [rhoB])) (by first | exact .h0 | exact .h1 | exact .h2 | exact .h3 | exact .h4 | exact .h5 | exact .h6 | exact .h7 | exact .h8 | exact .h9 | exact .h10 | exact .h11 | exact .h12 | exact .h13 | exact .h14)) (hS.sl (v := s3.v) (xs := (ins ++ [(⟨(UInt8.ofNat r.length), ⟨none, 0, 0⟩, sd⟩ : Instr)])) (by first | exact .h0 | exact .h1 | exact .h2 | exact .h3 | exact .h4 | exact .h5 | exact .h6 | exact .h7 | exact .h8 | exact .h9 | exact .h10 | exact .h11 | exact .h12 | exact .h13 | exact .h14)) (by simp [hql]) (hin_more hql (fun k h h2 => (hin k h h2).bel hS.old) ⟨rfl, SlR.nil _, hd.bel hS.old⟩) hbu2 (by simp; omega) (by simp; omega) hlw2) rfl ?_)
                          rintro _ w ⟨o2, e2, ch2, rfl, hn80, hO2, hw⟩; replace hS := hS.newOwn hw hn80.1 hn80.2
                          obtain rfl : e2 = 0 := Classical.byContradiction fun h => absurd (hbad2.symm.trans (hO2.bad h).2.1) (by decide)
                          obtain ⟨_, sp, rfl, rfl⟩ := hO2.good rfl
                          refine ⟨⟨_, hS.pick (e := blkE b9 (Enc.enc (Ready.withI { R with roles := s2 } s3)) 41) (by first | exact .h0 | exact .h1 | exact .h2 | exact .h3 | exact .h4 | exact .h5 | exact .h6 | exact .h7 | exact .h8 | exact .h9 | exact .h10 | exact .h11 | exact .h12 | exact .h13 | exact .h14)⟩, ?_⟩
                          refine ML.look rfl rfl rfl (fun w hw => (by obtain ⟨S1, hS⟩ := hw; exact opW.moveV (v := .tuple #[.agg (Enc.enc (outF (Ready.withI { R with roles := s2 } s3) (r ++ [rhoB]) (qs ++ [qB (UInt8.ofNat r.length) d]) (l ++ [az]) sp)), .int .i64 0]) rfl ⟨rfl, rfl⟩)) ?_
                          refine ML.look rfl rfl rfl (fun w hw => (by obtain ⟨S1, hS⟩ := hw; exact opW.extract rfl rfl ⟨rfl, rfl⟩)) ?_
                          refine ML.look rfl rfl rfl (fun w hw => (by obtain ⟨S1, hS⟩ := hw; exact opW.extract rfl rfl ⟨rfl, rfl⟩)) ?_
                          refine ML.one0 rfl rfl (opW.storeE hS rfl rfl (by first | exact .h0 | exact .h1 | exact .h2 | exact .h3 | exact .h4 | exact .h5 | exact .h6 | exact .h7 | exact .h8 | exact .h9 | exact .h10 | exact .h11 | exact .h12 | exact .h13 | exact .h14) (by first | rfl | exact Enc.size_eq _) ?_)
                          intro w hS; replace hS := hS _ (by first | exact .h0 | exact .h1 | exact .h2 | exact .h3 | exact .h4 | exact .h5 | exact .h6 | exact .h7 | exact .h8 | exact .h9 | exact .h10 | exact .h11 | exact .h12 | exact .h13 | exact .h14)
                          refine ⟨⟨_, hS.pick (e := blkE b9 (Enc.enc (Ready.withI { R with roles := s2 } s3)) 41) (by first | exact .h0 | exact .h1 | exact .h2 | exact .h3 | exact .h4 | exact .h5 | exact .h6 | exact .h7 | exact .h8 | exact .h9 | exact .h10 | exact .h11 | exact .h12 | exact .h13 | exact .h14)⟩, ?_⟩
                          refine ML.look rfl rfl rfl (fun w hw => (by obtain ⟨S1, hS⟩ := hw; exact opW.assignI rfl ⟨rfl, rfl⟩)) ?_
                          refine ML.nil ?_
                          refine thenQ_n ?_
                          exact ⟨b10, sp, ⟨rfl, rfl, rfl, rfl, trivial⟩, ((((((hS.pick (e := blkE b3 (Enc.enc R) 41) (by first | exact .h0 | exact .h1 | exact .h2 | exact .h3 | exact .h4 | exact .h5 | exact .h6 | exact .h7 | exact .h8 | exact .h9 | exact .h10 | exact .h11 | exact .h12 | exact .h13 | exact .h14)).pick (e := ownE (outF R r qs l so).changed.v 64 (chgF r (accF R r qs l))) (by first | exact .h0 | exact .h1 | exact .h2 | exact .h3 | exact .h4 | exact .h5 | exact .h6 | exact .h7 | exact .h8 | exact .h9 | exact .h10 | exact .h11 | exact .h12 | exact .h13 | exact .h14)).pick (e := blkE b7 (Enc.enc (outF R r qs l so)) 54) (by first | exact .h0 | exact .h1 | exact .h2 | exact .h3 | exact .h4 | exact .h5 | exact .h6 | exact .h7 | exact .h8 | exact .h9 | exact .h10 | exact .h11 | exact .h12 | exact .h13 | exact .h14)).pick (e := ownE (outF (Ready.withI { R with roles := s2 } s3) (r ++ [rhoB]) (qs ++ [qB (UInt8.ofNat r.length) d]) (l ++ [az]) sp).changed.v 64 (chgF (r ++ [rhoB]) (accF (Ready.withI { R with roles := s2 } s3) (r ++ [rhoB]) (qs ++ [qB (UInt8.ofNat r.length) d]) (l ++ [az])))) (by first | exact .h0 | exact .h1 | exact .h2 | exact .h3 | exact .h4 | exact .h5 | exact .h6 | exact .h7 | exact .h8 | exact .h9 | exact .h10 | exact .h11 | exact .h12 | exact .h13 | exact .h14)).pick (e := blkE b10 (Enc.enc (outF (Ready.withI { R with roles := s2 } s3) (r ++ [rhoB]) (qs ++ [qB (UInt8.ofNat r.length) d]) (l ++ [az]) sp)) 54) (by first | exact .h0 | exact .h1 | exact .h2 | exact .h3 | exact .h4 | exact .h5 | exact .h6 | exact .h7 | exact .h8 | exact .h9 | exact .h10 | exact .h11 | exact .h12 | exact .h13 | exact .h14)).sub (by repeat (first | with_reducible exact List.nil_sublist _ | with_reducible exact List.Sublist.refl _ | with_reducible refine List.Sublist.cons₂ _ ?_ | with_reducible refine List.Sublist.cons _ ?_)))⟩
                      · refine opW.allocA hS ?_
                        intro b10 w hw hS
                        refine ⟨⟨_, hS.pick (e := blkE b9 (Enc.enc (Ready.withI { R with roles := s2 } s3)) 41) (by first | exact .h0 | exact .h1 | exact .h2 | exact .h3 | exact .h4 | exact .h5 | exact .h6 | exact .h7 | exact .h8 | exact .h9 | exact .h10 | exact .h11 | exact .h12 | exact .h13 | exact .h14)⟩, ?_⟩
                        refine ML.one rfl rfl rfl (opW.appendOwn (α := Account) (v := v76) (xs := l) (ys := [az]) rfl hS rfl (by first | exact .h0 | exact .h1 | exact .h2 | exact .h3 | exact .h4 | exact .h5 | exact .h6 | exact .h7 | exact .h8 | exact .h9 | exact .h10 | exact .h11 | exact .h12 | exact .h13 | exact .h14) (hS.sl (v := .slice (some ⟨b78, 0, none⟩) 1 1) (xs := ([az] : List Account)) (by first | exact .h0 | exact .h1 | exact .h2 | exact .h3 | exact .h4 | exact .h5 | exact .h6 | exact .h7 | exact .h8 | exact .h9 | exact .h10 | exact .h11 | exact .h12 | exact .h13 | exact .h14)) (by simp only [List.length_cons, List.length_nil]; omega) (by simp only [maxLen, List.length_cons, List.length_nil]; omega) ?_)
                        intro v79 w hS; replace hS := hS _ (by first | exact .h0 | exact .h1 | exact .h2 | exact .h3 | exact .h4 | exact .h5 | exact .h6 | exact .h7 | exact .h8 | exact .h9 | exact .h10 | exact .h11 | exact .h12 | exact .h13 | exact .h14)
                        obtain ⟨s4, rfl⟩ := (hS.sl (v := v79) (xs := (l ++ [az])) (by first | exact .h0 | exact .h1 | exact .h2 | exact .h3 | exact .h4 | exact .h5 | exact .h6 | exact .h7 | exact .h8 | exact .h9 | exact .h10 | exact .h11 | exact .h12 | exact .h13 | exact .h14)).asV
                        refine ⟨⟨_, hS.pick (e := blkE b9 (Enc.enc (Ready.withI { R with roles := s2 } s3)) 41) (by first | exact .h0 | exact .h1 | exact .h2 | exact .h3 | exact .h4 | exact .h5 | exact .h6 | exact .h7 | exact .h8 | exact .h9 | exact .h10 | exact .h11 | exact .h12 | exact .h13 | exact .h14)⟩, ?_⟩
                        refine ML.one rfl rfl rfl (opW.call (run_any _ (Ready.withI { R with roles := s2 } s3) s4 (l ++ [az]) (r ++ [rhoB]) (ins ++ [(⟨(UInt8.ofNat r.length), ⟨none, 0, 0⟩, sd⟩ : Instr)]) (qs ++ [qB (UInt8.ofNat r.length) d]) (hg.bel hS.old) (hS.sl (v := s4.v) (xs := (l ++ [az])) (by first | exact .h0 | exact .h1 | exact .h2 | exact .h3 | exact .h4 | exact .h5 | exact .h6 | exact .h7 | exact .h8 | exact .h9 | exact .h10 | exact .h11 | exact .h12 | exact .h13 | exact .h14)) (hS.sl (v := s2.v) (xs := (r ++ [rhoB])) (by first | exact .h0 | exact .h1 | exact .h2 | exact .h3 | exact .h4 | exact .h5 | exact .h6 | exact .h7 | exact .h8 | exact .h9 | exact .h10 | exact .h11 | exact .h12 | exact .h13 | exact .h14)) (hS.sl (v := s3.v) (xs := (ins ++ [(⟨(UInt8.ofNat r.length), ⟨none, 0, 0⟩, sd⟩ : Instr)])) (by first | exact .h0 | exact .h1 | exact .h2 | exact .h3 | exact .h4 | exact .h5 | exact .h6 | exact .h7 | exact .h8 | exact .h9 | exact .h10 | exact .h11 | exact .h12 | exact .h13 | exact .h14)) (by simp [hql]) (hin_more hql (fun k h h2 => (hin k h h2).bel hS.old) ⟨rfl, SlR.nil _, hd.bel hS.old⟩) hbu2 (by simp; omega) (by simp; omega) hlw2) rfl ?_)
                        rintro _ w ⟨o2, e2, ch2, rfl, hn80, hO2, hw⟩; replace hS := hS.newOwn hw hn80.1 hn80.2
                        obtain rfl : e2 = 0 := Classical.byContradiction fun h => absurd (hbad2.symm.trans (hO2.bad h).2.1) (by decide)
                        obtain ⟨_, sp, rfl, rfl⟩ := hO2.good rfl
                        refine ⟨⟨_, hS.pick (e := blkE b9 (Enc.enc (Ready.withI { R with roles := s2 } s3)) 41) (by first | exact .h0 | exact .h1 | exact .h2 | exact .h3 | exact .h4 | exact .h5 | exact .h6 | exact .h7 | exact .h8 | exact .h9 | exact .h10 | exact .h11 | exact .h12 | exact .h13 | exact .h14)⟩, ?_⟩
                        refine ML.look rfl rfl rfl (fun w hw => (by obtain ⟨S1, hS⟩ := hw; exact opW.moveV (v := .tuple #[.agg (Enc.enc (outF (Ready.withI { R with roles := s2 } s3) (r ++ [rhoB]) (qs ++ [qB (UInt8.ofNat r.length) d]) (l ++ [az]) sp)), .int .i64 0]) rfl ⟨rfl, rfl⟩)) ?_
                        refine ML.look rfl rfl rfl (fun w hw => (by obtain ⟨S1, hS⟩ := hw; exact opW.extract rfl rfl ⟨rfl, rfl⟩)) ?_
                        refine ML.look rfl rfl rfl (fun w hw => (by obtain ⟨S1, hS⟩ := hw; exact opW.extract rfl rfl ⟨rfl, rfl⟩)) ?_
                        refine ML.one0 rfl rfl (opW.storeE hS rfl rfl (by first | exact .h0 | exact .h1 | exact .h2 | exact .h3 | exact .h4 | exact .h5 | exact .h6 | exact .h7 | exact .h8 | exact .h9 | exact .h10 | exact .h11 | exact .h12 | exact .h13 | exact .h14) (by first | rfl | exact Enc.size_eq _) ?_)
                        intro w hS; replace hS := hS _ (by first | exact .h0 | exact .h1 | exact .h2 | exact .h3 | exact .h4 | exact .h5 | exact .h6 | exact .h7 | exact .h8 | exact .h9 | exact .h10 | exact .h11 | exact .h12 | exact .h13 | exact .h14)
                        refine ⟨⟨_, hS.pick (e := blkE b9 (Enc.enc (Ready.withI { R with roles := s2 } s3)) 41) (by first | exact .h0 | exact .h1 | exact .h2 | exact .h3 | exact .h4 | exact .h5 | exact .h6 | exact .h7 | exact .h8 | exact .h9 | exact .h10 | exact .h11 | exact .h12 | exact .h13 | exact .h14)⟩, ?_⟩
                        refine ML.look rfl rfl rfl (fun w hw => (by obtain ⟨S1, hS⟩ := hw; exact opW.assignI rfl ⟨rfl, rfl⟩)) ?_
                        refine ML.nil ?_
                        refine thenQ_n ?_
                        exact ⟨b10, sp, ⟨rfl, rfl, rfl, rfl, trivial⟩, ((((((hS.pick (e := blkE b3 (Enc.enc R) 41) (by first | exact .h0 | exact .h1 | exact .h2 | exact .h3 | exact .h4 | exact .h5 | exact .h6 | exact .h7 | exact .h8 | exact .h9 | exact .h10 | exact .h11 | exact .h12 | exact .h13 | exact .h14)).pick (e := ownE (outF R r qs l so).changed.v 64 (chgF r (accF R r qs l))) (by first | exact .h0 | exact .h1 | exact .h2 | exact .h3 | exact .h4 | exact .h5 | exact .h6 | exact .h7 | exact .h8 | exact .h9 | exact .h10 | exact .h11 | exact .h12 | exact .h13 | exact .h14)).pick (e := blkE b7 (Enc.enc (outF R r qs l so)) 54) (by first | exact .h0 | exact .h1 | exact .h2 | exact .h3 | exact .h4 | exact .h5 | exact .h6 | exact .h7 | exact .h8 | exact .h9 | exact .h10 | exact .h11 | exact .h12 | exact .h13 | exact .h14)).pick (e := ownE (outF (Ready.withI { R with roles := s2 } s3) (r ++ [rhoB]) (qs ++ [qB (UInt8.ofNat r.length) d]) (l ++ [az]) sp).changed.v 64 (chgF (r ++ [rhoB]) (accF (Ready.withI { R with roles := s2 } s3) (r ++ [rhoB]) (qs ++ [qB (UInt8.ofNat r.length) d]) (l ++ [az])))) (by first | exact .h0 | exact .h1 | exact .h2 | exact .h3 | exact .h4 | exact .h5 | exact .h6 | exact .h7 | exact .h8 | exact .h9 | exact .h10 | exact .h11 | exact .h12 | exact .h13 | exact .h14)).pick (e := blkE b10 (Enc.enc (outF (Ready.withI { R with roles := s2 } s3) (r ++ [rhoB]) (qs ++ [qB (UInt8.ofNat r.length) d]) (l ++ [az]) sp)) 54) (by first | exact .h0 | exact .h1 | exact .h2 | exact .h3 | exact .h4 | exact .h5 | exact .h6 | exact .h7 | exact .h8 | exact .h9 | exact .h10 | exact .h11 | exact .h12 | exact .h13 | exact .h14)).sub (by repeat (first | with_reducible exact List.nil_sublist _ | with_reducible exact List.Sublist.refl _ | with_reducible refine List.Sublist.cons₂ _ ?_ | with_reducible refine List.Sublist.cons _ ?_)))⟩
                    · refine opW.allocA hS ?_
                      intro b10 w hw hS
                      refine ⟨⟨_, hS.pick (e := blkE b9 (Enc.enc (Ready.withI { R with roles := s2 } s3)) 41) (by first | exact .h0 | exact .h1 | exact .h2 | exact .h3 | exact .h4 | exact .h5 | exact .h6 | exact .h7 | exact .h8 | exact .h9 | exact .h10 | exact .h11 | exact .h12 | exact .h13 | exact .h14)⟩, ?_⟩
                      refine ML.one rfl rfl rfl (opW.appendNil (α := Account) rfl hS rfl ((hl.bel hS.old)) (by (try simp only [List.length_append, List.length_cons, List.length_nil, List.length_map]); omega) (by simp only [maxLen]; (try simp only [List.length_append, List.length_cons, List.length_nil, List.length_map]); omega) ?_)
                      intro v76 w hw hS
                      refine ⟨⟨_, hS.pick (e := blkE b9 (Enc.enc (Ready.withI { R with roles := s2 } s3)) 41) (by first | exact .h0 | exact .h1 | exact .h2 | exact .h3 | exact .h4 | exact .h5 | exact .h6 | exact .h7 | exact .h8 | exact .h9 | exact .h10 | exact .h11 | exact .h12 | exact .h13 | exact .h14)⟩, ?_⟩
                      refine ML.one rfl rfl rfl (opW.appendOwn (α := Account) (v := v76) (xs := l) (ys := [az]) rfl hS rfl (by first | exact .h0 | exact .h1 | exact .h2 | exact .h3 | exact .h4 | exact .h5 | exact .h6 | exact .h7 | exact .h8 | exact .h9 | exact .h10 | exact .h11 | exact .h12 | exact .h13 | exact .h14) (hS.sl (v := .slice (some ⟨b78, 0, none⟩) 1 1) (xs := ([az] : List Account)) (by first | exact .h0 | exact .h1 | exact .h2 | exact .h3 | exact .h4 | exact .h5 | exact .h6 | exact .h7 | exact .h8 | exact .h9 | exact .h10 | exact .h11 | exact .h12 | exact .h13 | exact .h14)) (by simp only [List.length_cons, List.length_nil]; omega) (by simp only [maxLen, List.length_cons, List.length_nil]; omega) ?_)
                      intro v79 w hS; replace hS := hS _ (by first | exact .h0 | exact .h1 | exact .h2 | exact .h3 | exact .h4 | exact .h5 | exact .h6 | exact .h7 | exact .h8 | exact .h9 | exact .h10 | exact .h11 | exact .h12 | exact .h13 | exact .h14)
                      obtain ⟨s4, rfl⟩ := (hS.sl (v := v79) (xs := (l ++ [az])) (by first | exact .h0 | exact .h1 | exact .h2 | exact .h3 | exact .h4 | exact .h5 | exact .h6 | exact .h7 | exact .h8 | exact .h9 | exact .h10 | exact .h11 | exact .h12 | exact .h13 | exact .h14)).asV
                      refine ⟨⟨_, hS.pick (e := blkE b9 (Enc.enc (Ready.withI { R with roles := s2 } s3)) 41) (by first | exact .h0 | exact .h1 | exact .h2 | exact .h3 | exact .h4 | exact .h5 | exact .h6 | exact .h7 | exact .h8 | exact .h9 | exact .h10 | exact .h11 | exact .h12 | exact .h13 | exact .h14)⟩, ?_⟩
                      refine ML.one rfl rfl rfl (opW.call (run_any _ (Ready.withI { R with roles := s2 } s3) s4 (l ++ [az]) (r ++ [rhoB]) (ins ++ [(⟨(UInt8.ofNat r.length), ⟨none, 0, 0⟩, sd⟩ : Instr)]) (qs ++ [qB (UInt8.ofNat r.length) d]) (hg.bel hS.old) (hS.sl (v := s4.v) (xs := (l ++ [az])) (by first | exact .h0 | exact .h1 | exact .h2 | exact .h3 | exact .h4 | exact .h5 | exact .h6 | exact .h7 | exact .h8 | exact .h9 | exact .h10 | exact .h11 | exact .h12 | exact .h13 | exact .h14)) (hS.sl (v := s2.v) (xs := (r ++ [rhoB])) (by first | exact .h0 | exact .h1 | exact .h2 | exact .h3 | exact .h4 | exact .h5 | exact .h6 | exact .h7 | exact .h8 | exact .h9 | exact .h10 | exact .h11 | exact .h12 | exact .h13 | exact .h14)) (hS.sl (v := s3.v) (xs := (ins ++ [(⟨(UInt8.ofNat r.length), ⟨none, 0, 0⟩, sd⟩ : Instr)])) (by first | exact .h0 | exact .h1 | exact .h2 | exact .h3 | exact .h4 | exact .h5 | exact .h6 | exact .h7 | exact .h8 | exact .h9 | exact .h10 | exact .h11 | exact .h12 | exact .h13 | exact .h14)) (by simp [hql]) (hin_more hql (fun k h h2 => (hin k h h2).bel hS.old) ⟨rfl, SlR.nil _, hd.bel hS.old⟩) hbu2 (by simp; omega) (by simp; omega) hlw2) rfl ?_)
                      rintro _ w ⟨o2, e2, ch2, rfl, hn80, hO2, hw⟩; replace hS := hS.newOwn hw hn80.1 hn80.2
                      obtain rfl : e2 = 0 := Classical.byContradiction fun h => absurd (hbad2.symm.trans (hO2.bad h).2.1) (by decide)
                      obtain ⟨_, sp, rfl, rfl⟩ := hO2.good rfl
                      refine ⟨⟨_, hS.pick (e := blkE b9 (Enc.enc (Ready.withI { R with roles := s2 } s3)) 41) (by first | exact .h0 | exact .h1 | exact .h2 | exact .h3 | exact .h4 | exact .h5 | exact .h6 | exact .h7 | exact .h8 | exact .h9 | exact .h10 | exact .h11 | exact .h12 | exact .h13 | exact .h14)⟩, ?_⟩
                      refine ML.look rfl rfl rfl (fun w hw => (by obtain ⟨S1, hS⟩ := hw; exact opW.moveV (v := .tuple #[.agg (Enc.enc (outF (Ready.withI { R with roles := s2 } s3) (r ++ [rhoB]) (qs ++ [qB (UInt8.ofNat r.length) d]) (l ++ [az]) sp)), .int .i64 0]) rfl ⟨rfl, rfl⟩)) ?_
                      refine ML.look rfl rfl rfl (fun w hw => (by obtain ⟨S1, hS⟩ := hw; exact opW.extract rfl rfl ⟨rfl, rfl⟩)) ?_
                      refine ML.look rfl rfl rfl (fun w hw => (by obtain ⟨S1, hS⟩ := hw; exact opW.extract rfl rfl ⟨rfl, rfl⟩)) ?_
                      refine ML.one0 rfl rfl (opW.storeE hS rfl rfl (by first | exact .h0 | exact .h1 | exact .h2 | exact .h3 | exact .h4 | exact .h5 | exact .h6 | exact .h7 | exact .h8 | exact .h9 | exact .h10 | exact .h11 | exact .h12 | exact .h13 | exact .h14) (by first | rfl | exact Enc.size_eq _) ?_)
                      intro w hS; replace hS := hS _ (by first | exact .h0 | exact .h1 | exact .h2 | exact .h3 | exact .h4 | exact .h5 | exact .h6 | exact .h7 | exact .h8 | exact .h9 | exact .h10 | exact .h11 | exact .h12 | exact .h13 | exact .h14)
                      refine ⟨⟨_, hS.pick (e := blkE b9 (Enc.enc (Ready.withI { R with roles := s2 } s3)) 41) (by first | exact .h0 | exact .h1 | exact .h2 | exact .h3 | exact .h4 | exact .h5 | exact .h6 | exact .h7 | exact .h8 | exact .h9 | exact .h10 | exact .h11 | exact .h12 | exact .h13 | exact .h14)⟩, ?_⟩
                      refine ML.look rfl rfl rfl (fun w hw => (by obtain ⟨S1, hS⟩ := hw; exact opW.assignI rfl ⟨rfl, rfl⟩)) ?_
                      refine ML.nil ?_
                      refine thenQ_n ?_
                      exact ⟨b10, sp, ⟨rfl, rfl, rfl, rfl, trivial⟩, ((((((hS.pick (e := blkE b3 (Enc.enc R) 41) (by first | exact .h0 | exact .h1 | exact .h2 | exact .h3 | exact .h4 | exact .h5 | exact .h6 | exact .h7 | exact .h8 | exact .h9 | exact .h10 | exact .h11 | exact .h12 | exact .h13 | exact .h14)).pick (e := ownE (outF R r qs l so).changed.v 64 (chgF r (accF R r qs l))) (by first | exact .h0 | exact .h1 | exact .h2 | exact .h3 | exact .h4 | exact .h5 | exact .h6 | exact .h7 | exact .h8 | exact .h9 | exact .h10 | exact .h11 | exact .h12 | exact .h13 | exact .h14)).pick (e := blkE b7 (Enc.enc (outF R r qs l so)) 54) (by first | exact .h0 | exact .h1 | exact .h2 | exact .h3 | exact .h4 | exact .h5 | exact .h6 | exact .h7 | exact .h8 | exact .h9 | exact .h10 | exact .h11 | exact .h12 | exact .h13 | exact .h14)).pick (e := ownE (outF (Ready.withI { R with roles := s2 } s3) (r ++ [rhoB]) (qs ++ [qB (UInt8.ofNat r.length) d]) (l ++ [az]) sp).changed.v 64 (chgF (r ++ [rhoB]) (accF (Ready.withI { R with roles := s2 } s3) (r ++ [rhoB]) (qs ++ [qB (UInt8.ofNat r.length) d]) (l ++ [az])))) (by first | exact .h0 | exact .h1 | exact .h2 | exact .h3 | exact .h4 | exact .h5 | exact .h6 | exact .h7 | exact .h8 | exact .h9 | exact .h10 | exact .h11 | exact .h12 | exact .h13 | exact .h14)).pick (e := blkE b10 (Enc.enc (outF (Ready.withI { R with roles := s2 } s3) (r ++ [rhoB]) (qs ++ [qB (UInt8.ofNat r.length) d]) (l ++ [az]) sp)) 54) (by first | exact .h0 | exact .h1 | exact .h2 | exact .h3 | exact .h4 | exact .h5 | exact .h6 | exact .h7 | exact .h8 | exact .h9 | exact .h10 | exact .h11 | exact .h12 | exact .h13 | exact .h14)).sub (by repeat (first | with_reducible exact List.nil_sublist _ | with_reducible exact List.Sublist.refl _ | with_reducible refine List.Sublist.cons₂ _ ?_ | with_reducible refine List.Sublist.cons _ ?_)))⟩
                  · refine opW.allocA hS ?_
                    intro b10 w hw hS
                    refine ⟨⟨_, hS.pick (e := blkE b9 (Enc.enc (Ready.withI { R with roles := s2 } s3)) 41) (by first | exact .h0 | exact .h1 | exact .h2 | exact .h3 | exact .h4 | exact .h5 | exact .h6 | exact .h7 | exact .h8 | exact .h9 | exact .h10 | exact .h11 | exact .h12 | exact .h13 | exact .h14)⟩, ?_⟩
                    refine ML.fork rfl rfl rfl rfl ?_ ?_ 
                    · refine opW.appendNil (α := Account) rfl hS rfl ((hl.bel hS.old)) (by (try simp only [List.length_append, List.length_cons, List.length_nil, List.length_map]); omega) (by simp only [maxLen]; (try simp only [List.length_append, List.length_cons, List.length_nil, List.length_map]); omega) ?_
                      intro v76 w hw hS
                      refine ⟨⟨_, hS.pick (e := blkE b9 (Enc.enc (Ready.withI { R with roles := s2 } s3)) 41) (by first | exact .h0 | exact .h1 | exact .h2 | exact .h3 | exact .h4 | exact .h5 | exact .h6 | exact .h7 | exact .h8 | exact .h9 | exact .h10 | exact .h11 | exact .h12 | exact .h13 | exact .h14)⟩, ?_⟩
                      refine ML.one rfl rfl rfl (opW.buildSl hS (([az] : List Account)) [.agg (Enc.enc az)] rfl rfl rfl rfl (by decide) ?_)
                      intro b78 w hw hS
                      refine ⟨⟨_, hS.pick (e := blkE b9 (Enc.enc (Ready.withI { R with roles := s2 } s3)) 41) (by first | exact .h0 | exact .h1 | exact .h2 | exact .h3 | exact .h4 | exact .h5 | exact .h6 | exact .h7 | exact .h8 | exact .h9 | exact .h10 | exact .h11 | exact .h12 | exact .h13 | exact .h14)⟩, ?_⟩
                      refine ML.one rfl rfl rfl (opW.appendOwn (α := Account) (v := v76) (xs := l) (ys := [az]) rfl hS rfl (by first | exact .h0 | exact .h1 | exact .h2 | exact .h3 | exact .h4 | exact .h5 | exact .h6 | exact .h7 | exact .h8 | exact .h9 | exact .h10 | exact .h11 | exact .h12 | exact .h13 | exact .h14) (hS.sl (v := .slice (some ⟨b78, 0, none⟩) 1 1) (xs := ([az] : List Account)) (by first | exact .h0 | exact .h1 | exact .h2 | exact .h3 | exact .h4 | exact .h5 | exact .h6 | exact .h7 | exact .h8 | exact .h9 | exact .h10 | exact .h11 | exact .h12 | exact .h13 | exact .h14)) (by simp only [List.length_cons, List.length_nil]; omega) (by simp only [maxLen, List.length_cons, List.length_nil]; omega) ?_)
                      intro v79 w hS; replace hS := hS _ (by first | exact .h0 | exact .h1 | exact .h2 | exact .h3 | exact .h4 | exact .h5 | exact .h6 | exact .h7 | exact .h8 | exact .h9 | exact .h10 | exact .h11 | exact .h12 | exact .h13 | exact .h14)
                      obtain ⟨s4, rfl⟩ := (hS.sl (v := v79) (xs := (l ++ [az])) (by first | exact .h0 | exact .h1 | exact .h2 | exact .h3 | exact .h4 | exact .h5 | exact .h6 | exact .h7 | exact .h8 | exact .h9 | exact .h10 | exact .h11 | exact .h12 | exact .h13 | exact .h14)).asV
                      refine ⟨⟨_, hS.pick (e := blkE b9 (Enc.enc (Ready.withI { R with roles := s2 } s3)) 41) (by first | exact .h0 | exact .h1 | exact .h2 | exact .h3 | exact .h4 | exact .h5 | exact .h6 | exact .h7 | exact .h8 | exact .h9 | exact .h10 | exact .h11 | exact .h12 | exact .h13 | exact .h14)⟩, ?_⟩
                      refine ML.one rfl rfl rfl (opW.call (run_any _ (Ready.withI { R with roles := s2 } s3) s4 (l ++ [az]) (r ++ [rhoB]) (ins ++ [(⟨(UInt8.ofNat r.length), ⟨none, 0, 0⟩, sd⟩ : Instr)]) (qs ++ [qB (UInt8.ofNat r.length) d]) (hg.bel hS.old) (hS.sl (v := s4.v) (xs := (l ++ [az])) (by first | exact .h0 | exact .h1 | exact .h2 | exact .h3 | exact .h4 | exact .h5 | exact .h6 | exact .h7 | exact .h8 | exact .h9 | exact .h10 | exact .h11 | exact .h12 | exact .h13 | exact .h14)) (hS.sl (v := s2.v) (xs := (r ++ [rhoB])) (by first | exact .h0 | exact .h1 | exact .h2 | exact .h3 | exact .h4 | exact .h5 | exact .h6 | exact .h7 | exact .h8 | exact .h9 | exact .h10 | exact .h11 | exact .h12 | exact .h13 | exact .h14)) (hS.sl (v := s3.v) (xs := (ins ++ [(⟨(UInt8.ofNat r.length), ⟨none, 0, 0⟩, sd⟩ : Instr)])) (by first | exact .h0 | exact .h1 | exact .h2 | exact .h3 | exact .h4 | exact .h5 | exact .h6 | exact .h7 | exact .h8 | exact .h9 | exact .h10 | exact .h11 | exact .h12 | exact .h13 | exact .h14)) (by simp [hql]) (hin_more hql (fun k h h2 => (hin k h h2).bel hS.old) ⟨rfl, SlR.nil _, hd.bel hS.old⟩) hbu2 (by simp; omega) (by simp; omega) hlw2) rfl ?_)
                      rintro _ w ⟨o2, e2, ch2, rfl, hn80, hO2, hw⟩; replace hS := hS.newOwn hw hn80.1 hn80.2
                      obtain rfl : e2 = 0 := Classical.byContradiction fun h => absurd (hbad2.symm.trans (hO2.bad h).2.1) (by decide)
                      obtain ⟨_, sp, rfl, rfl⟩ := hO2.good rfl
                      refine ⟨⟨_, hS.pick (e := blkE b9 (Enc.enc (Ready.withI { R with roles := s2 } s3)) 41) (by first | exact .h0 | exact .h1 | exact .h2 | exact .h3 | exact .h4 | exact .h5 | exact .h6 | exact .h7 | exact .h8 | exact .h9 | exact .h10 | exact .h11 | exact .h12 | exact .h13 | exact .h14)⟩, ?_⟩
                      refine ML.look rfl rfl rfl (fun w hw => (by obtain ⟨S1, hS⟩ := hw; exact opW.moveV (v := .tuple #[.agg (Enc.enc (outF (Ready.withI { R with roles := s2 } s3) (r ++ [rhoB]) (qs ++ [qB (UInt8.ofNat r.length) d]) (l ++ [az]) sp)), .int .i64 0]) rfl ⟨rfl, rfl⟩)) ?_
                      refine ML.look rfl rfl rfl (fun w hw => (by obtain ⟨S1, hS⟩ := hw; exact opW.extract rfl rfl ⟨rfl, rfl⟩)) ?_
                      refine ML.look rfl rfl rfl (fun w hw => (by obtain ⟨S1, hS⟩ := hw; exact opW.extract rfl rfl ⟨rfl, rfl⟩)) ?_
                      refine ML.one0 rfl rfl (opW.storeE hS rfl rfl (by first | exact .h0 | exact .h1 | exact .h2 | exact .h3 | exact .h4 | exact .h5 | exact .h6 | exact .h7 | exact .h8 | exact .h9 | exact .h10 | exact .h11 | exact .h12 | exact .h13 | exact .h14) (by first | rfl | exact Enc.size_eq _) ?_)
                      intro w hS; replace hS := hS _ (by first | exact .h0 | exact .h1 | exact .h2 | exact .h3 | exact .h4 | exact .h5 | exact .h6 | exact .h7 | exact .h8 | exact .h9 | exact .h10 | exact .h11 | exact .h12 | exact .h13 | exact .h14)
                      refine ⟨⟨_, hS.pick (e := blkE b9 (Enc.enc (Ready.withI { R with roles := s2 } s3)) 41) (by first | exact .h0 | exact .h1 | exact .h2 | exact .h3 | exact .h4 | exact .h5 | exact .h6 | exact .h7 | exact .h8 | exact .h9 | exact .h10 | exact .h11 | exact .h12 | exact .h13 | exact .h14)⟩, ?_⟩
                      refine ML.look rfl rfl rfl (fun w hw => (by obtain ⟨S1, hS⟩ := hw; exact opW.assignI rfl ⟨rfl, rfl⟩)) ?_
                      refine ML.nil ?_
                      refine thenQ_n ?_
                      exact ⟨b10, sp, ⟨rfl, rfl, rfl, rfl, trivial⟩, ((((((hS.pick (e := blkE b3 (Enc.enc R) 41) (by first | exact .h0 | exact .h1 | exact .h2 | exact .h3 | exact .h4 | exact .h5 | exact .h6 | exact .h7 | exact .h8 | exact .h9 | exact .h10 | exact .h11 | exact .h12 | exact .h13 | exact .h14)).pick (e := ownE (outF R r qs l so).changed.v 64 (chgF r (accF R r qs l))) (by first | exact .h0 | exact .h1 | exact .h2 | exact .h3 | exact .h4 | exact .h5 | exact .h6 | exact .h7 | exact .h8 | exact .h9 | exact .h10 | exact .h11 | exact .h12 | exact .h13 | exact .h14)).pick (e := blkE b7 (Enc.enc (outF R r qs l so)) 54) (by first | exact .h0 | exact .h1 | exact .h2 | exact .h3 | exact .h4 | exact .h5 | exact .h6 | exact .h7 | exact .h8 | exact .h9 | exact .h10 | exact .h11 | exact .h12 | exact .h13 | exact .h14)).pick (e := ownE (outF (Ready.withI { R with roles := s2 } s3) (r ++ [rhoB]) (qs ++ [qB (UInt8.ofNat r.length) d]) (l ++ [az]) sp).changed.v 64 (chgF (r ++ [rhoB]) (accF (Ready.withI { R with roles := s2 } s3) (r ++ [rhoB]) (qs ++ [qB (UInt8.ofNat r.length) d]) (l ++ [az])))) (by first | exact .h0 | exact .h1 | exact .h2 | exact .h3 | exact .h4 | exact .h5 | exact .h6 | exact .h7 | exact .h8 | exact .h9 | exact .h10 | exact .h11 | exact .h12 | exact .h13 | exact .h14)).pick (e := blkE b10 (Enc.enc (outF (Ready.withI { R with roles := s2 } s3) (r ++ [rhoB]) (qs ++ [qB (UInt8.ofNat r.length) d]) (l ++ [az]) sp)) 54) (by first | exact .h0 | exact .h1 | exact .h2 | exact .h3 | exact .h4 | exact .h5 | exact .h6 | exact .h7 | exact .h8 | exact .h9 | exact .h10 | exact .h11 | exact .h12 | exact .h13 | exact .h14)).sub (by repeat (first | with_reducible exact List.nil_sublist _ | with_reducible exact List.Sublist.refl _ | with_reducible refine List.Sublist.cons₂ _ ?_ | with_reducible refine List.Sublist.cons _ ?_)))⟩
                    · refine opW.buildSl hS (([az] : List Account)) [.agg (Enc.enc az)] rfl rfl rfl rfl (by decide) ?_
                      intro b78 w hw hS
                      refine ⟨⟨_, hS.pick (e := blkE b9 (Enc.enc (Ready.withI { R with roles := s2 } s3)) 41) (by first | exact .h0 | exact .h1 | exact .h2 | exact .h3 | exact .h4 | exact .h5 | exact .h6 | exact .h7 | exact .h8 | exact .h9 | exact .h10 | exact .h11 | exact .h12 | exact .h13 | exact .h14)⟩, ?_⟩
                      refine ML.one rfl rfl rfl (opW.appendNil (α := Account) rfl hS rfl ((hl.bel hS.old)) (by (try simp only [List.length_append, List.length_cons, List.length_nil, List.length_map]); omega) (by simp only [maxLen]; (try simp only [List.length_append, List.length_cons, List.length_nil, List.length_map]); omega) ?_)
                      intro v76 w hw hS
                      refine ⟨⟨_, hS.pick (e := blkE b9 (Enc.enc (Ready.withI { R with roles := s2 } s3)) 41) (by first | exact .h0 | exact .h1 | exact .h2 | exact .h3 | exact .h4 | exact .h5 | exact .h6 | exact .h7 | exact .h8 | exact .h9 | exact .h10 | exact .h11 | exact .h12 | exact .h13 | exact .h14)⟩, ?_⟩
                      refine ML.one rfl rfl rfl (opW.appendOwn (α := Account) (v := v76) (xs := l) (ys := [az]) rfl hS rfl (by first | exact .h0 | exact .h1 | exact .h2 | exact .h3 | exact .h4 | exact .h5 | exact .h6 | exact .h7 | exact .h8 | exact .h9 | exact .h10 | exact .h11 | exact .h12 | exact .h13 | exact .h14) (hS.sl (v := .slice (some ⟨b78, 0, none⟩) 1 1) (xs := ([az] : List Account)) (by first | exact .h0 | exact .h1 | exact .h2 | exact .h3 | exact .h4 | exact .h5 | exact .h6 | exact .h7 | exact .h8 | exact .h9 | exact .h10 | exact .h11 | exact .h12 | exact .h13 | exact .h14)) (by simp only [List.length_cons, List.length_nil]; omega) (by simp only [maxLen, List.length_cons, List.length_nil]; omega) ?_)
                      intro v79 w hS; replace hS := hS _ (by first | exact .h0 | exact .h1 | exact .h2 | exact .h3 | exact .h4 | exact .h5 | exact .h6 | exact .h7 | exact .h8 | exact .h9 | exact .h10 | exact .h11 | exact .h12 | exact .h13 | exact .h14)
                      obtain ⟨s4, rfl⟩ := (hS.sl (v := v79) (xs := (l ++ [az])) (by first | exact .h0 | exact .h1 | exact .h2 | exact .h3 | exact .h4 | exact .h5 | exact .h6 | exact .h7 | exact .h8 | exact .h9 | exact .h10 | exact .h11 | exact .h12 | exact .h13 | exact .h14)).asV
                      refine ⟨⟨_, hS.pick (e := blkE b9 (Enc.enc (Ready.withI { R with roles := s2 } s3)) 41) (by first | exact .h0 | exact .h1 | exact .h2 | exact .h3 | exact .h4 | exact .h5 | exact .h6 | exact .h7 | exact .h8 | exact .h9 | exact .h10 | exact .h11 | exact .h12 | exact .h13 | exact .h14)⟩, ?_⟩
                      refine ML.one rfl rfl rfl (opW.call (run_any _ (Ready.withI { R with roles := s2 } s3) s4 (l ++ [az]) (r ++ [rhoB]) (ins ++ [(⟨(UInt8.ofNat r.length), ⟨none, 0, 0⟩, sd⟩ : Instr)]) (qs ++ [qB (UInt8.ofNat r.length) d]) (hg.bel hS.old) (hS.sl (v := s4.v) (xs := (l ++ [az])) (by first | exact .h0 | exact .h1 | exact .h2 | exact .h3 | exact .h4 | exact .h5 | exact .h6 | exact .h7 | exact .h8 | exact .h9 | exact .h10 | exact .h11 | exact .h12 | exact .h13 | exact .h14)) (hS.sl (v := s2.v) (xs := (r ++ [rhoB])) (by first | exact .h0 | exact .h1 | exact .h2 | exact .h3 | exact .h4 | exact .h5 | exact .h6 | exact .h7 | exact .h8 | exact .h9 | exact .h10 | exact .h11 | exact .h12 | exact .h13 | exact .h14)) (hS.sl (v := s3.v) (xs := (ins ++ [(⟨(UInt8.ofNat r.length), ⟨none, 0, 0⟩, sd⟩ : Instr)])) (by first | exact .h0 | exact .h1 | exact .h2 | exact .h3 | exact .h4 | exact .h5 | exact .h6 | exact .h7 | exact .h8 | exact .h9 | exact .h10 | exact .h11 | exact .h12 | exact .h13 | exact .h14)) (by simp [hql]) (hin_more hql (fun k h h2 => (hin k h h2).bel hS.old) ⟨rfl, SlR.nil _, hd.bel hS.old⟩) hbu2 (by simp; omega) (by simp; omega) hlw2) rfl ?_)
                      rintro _ w ⟨o2, e2, ch2, rfl, hn80, hO2, hw⟩; replace hS := hS.newOwn hw hn80.1 hn80.2
                      obtain rfl : e2 = 0 := Classical.byContradiction fun h => absurd (hbad2.symm.trans (hO2.bad h).2.1) (by decide)
                      obtain ⟨_, sp, rfl, rfl⟩ := hO2.good rfl
                      refine ⟨⟨_, hS.pick (e := blkE b9 (Enc.enc (Ready.withI { R with roles := s2 } s3)) 41) (by first | exact .h0 | exact .h1 | exact .h2 | exact .h3 | exact .h4 | exact .h5 | exact .h6 | exact .h7 | exact .h8 | exact .h9 | exact .h10 | exact .h11 | exact .h12 | exact .h13 | exact .h14)⟩, ?_⟩
                      refine ML.look rfl rfl rfl (fun w hw => (by obtain ⟨S1, hS⟩ := hw; exact opW.moveV (v := .tuple #[.agg (Enc.enc (outF (Ready.withI { R with roles := s2 } s3) (r ++ [rhoB]) (qs ++ [qB (UInt8.ofNat r.length) d]) (l ++ [az]) sp)), .int .i64 0]) rfl ⟨rfl, rfl⟩)) ?_
                      refine ML.look rfl rfl rfl (fun w hw => (by obtain ⟨S1, hS⟩ := hw; exact opW.extract rfl rfl ⟨rfl, rfl⟩)) ?_
                      refine ML.look rfl rfl rfl (fun w hw => (by obtain ⟨S1, hS⟩ := hw; exact opW.extract rfl rfl ⟨rfl, rfl⟩)) ?_
                      refine ML.one0 rfl rfl (opW.storeE hS rfl rfl (by first | exact .h0 | exact .h1 | exact .h2 | exact .h3 | exact .h4 | exact .h5 | exact .h6 | exact .h7 | exact .h8 | exact .h9 | exact .h10 | exact .h11 | exact .h12 | exact .h13 | exact .h14) (by first | rfl | exact Enc.size_eq _) ?_)
                      intro w hS; replace hS := hS _ (by first | exact .h0 | exact .h1 | exact .h2 | exact .h3 | exact .h4 | exact .h5 | exact .h6 | exact .h7 | exact .h8 | exact .h9 | exact .h10 | exact .h11 | exact .h12 | exact .h13 | exact .h14)
                      refine ⟨⟨_, hS.pick (e := blkE b9 (Enc.enc (Ready.withI { R with roles := s2 } s3)) 41) (by first | exact .h0 | exact .h1 | exact .h2 | exact .h3 | exact .h4 | exact .h5 | exact .h6 | exact .h7 | exact .h8 | exact .h9 | exact .h10 | exact .h11 | exact .h12 | exact .h13 | exact .h14)⟩, ?_⟩
                      refine ML.look rfl rfl rfl (fun w hw => (by obtain ⟨S1, hS⟩ := hw; exact opW.assignI rfl ⟨rfl, rfl⟩)) ?_
                      refine ML.nil ?_
                      refine thenQ_n ?_
                      exact ⟨b10, sp, ⟨rfl, rfl, rfl, rfl, trivial⟩, ((((((hS.pick (e := blkE b3 (Enc.enc R) 41) (by first | exact .h0 | exact .h1 | exact .h2 | exact .h3 | exact .h4 | exact .h5 | exact .h6 | exact .h7 | exact .h8 | exact .h9 | exact .h10 | exact .h11 | exact .h12 | exact .h13 | exact .h14)).pick (e := ownE (outF R r qs l so).changed.v 64 (chgF r (accF R r qs l))) (by first | exact .h0 | exact .h1 | exact .h2 | exact .h3 | exact .h4 | exact .h5 | exact .h6 | exact .h7 | exact .h8 | exact .h9 | exact .h10 | exact .h11 | exact .h12 | exact .h13 | exact .h14)).pick (e := blkE b7 (Enc.enc (outF R r qs l so)) 54) (by first | exact .h0 | exact .h1 | exact .h2 | exact .h3 | exact .h4 | exact .h5 | exact .h6 | exact .h7 | exact .h8 | exact .h9 | exact .h10 | exact .h11 | exact .h12 | exact .h13 | exact .h14)).pick (e := ownE (outF (Ready.withI { R with roles := s2 } s3) (r ++ [rhoB]) (qs ++ [qB (UInt8.ofNat r.length) d]) (l ++ [az]) sp).changed.v 64 (chgF (r ++ [rhoB]) (accF (Ready.withI { R with roles := s2 } s3) (r ++ [rhoB]) (qs ++ [qB (UInt8.ofNat r.length) d]) (l ++ [az])))) (by first | exact .h0 | exact .h1 | exact .h2 | exact .h3 | exact .h4 | exact .h5 | exact .h6 | exact .h7 | exact .h8 | exact .h9 | exact .h10 | exact .h11 | exact .h12 | exact .h13 | exact .h14)).pick (e := blkE b10 (Enc.enc (outF (Ready.withI { R with roles := s2 } s3) (r ++ [rhoB]) (qs ++ [qB (UInt8.ofNat r.length) d]) (l ++ [az]) sp)) 54) (by first | exact .h0 | exact .h1 | exact .h2 | exact .h3 | exact .h4 | exact .h5 | exact .h6 | exact .h7 | exact .h8 | exact .h9 | exact .h10 | exact .h11 | exact .h12 | exact .h13 | exact .h14)).sub (by repeat (first | with_reducible exact List.nil_sublist _ | with_reducible exact List.Sublist.refl _ | with_reducible refine List.Sublist.cons₂ _ ?_ | with_reducible refine List.Sublist.cons _ ?_)))⟩
                ·
                  rintro f w ⟨b10, sp, hfit, hS⟩
                  refine WC.fits _ hfit (fun g => ?_)
                  clear hfit
                  refine WC.seq (fun K15 hK15 => ?_)
                  refine WC.seq (fun K16 hK16 => ?_)
                  refine WC.region ?_
                  refine WL.op rfl (opW.moveI rfl ?_)
                  refine WL.op rfl (opW.boolF (rfl) (opW.neq rfl rfl ⟨rfl, rfl⟩) ?_)
                  refine WL.op rfl (opW.moveB rfl ?_)
                  refine WL.gT 85 rfl rfl rfl (WL.op rfl (opW.fieldAddrB rfl ?_))
                  refine WL.gT 85 rfl rfl rfl (WL.op rfl (opW.fieldAddrB rfl ?_))
                  refine WL.gT 85 rfl rfl rfl (WL.op rfl (opW.loadV rfl (hS.ld1 (b := b3) (cs := Enc.enc R) (by first | exact .h0 | exact .h1 | exact .h2 | exact .h3 | exact .h4 | exact .h5 | exact .h6 | exact .h7 | exact .h8 | exact .h9 | exact .h10 | exact .h11 | exact .h12 | exact .h13 | exact .h14) (Ready.at_budget_bad R)) ?_))
                  refine WL.gT 85 rfl rfl rfl (WL.op rfl (opW.fieldAddrB rfl ?_))
                  refine WL.gT 85 rfl rfl rfl (WL.op rfl (opW.fieldAddrB rfl ?_))
                  refine WL.gT 85 rfl rfl rfl (WL.op rfl (opW.fieldAddrB rfl ?_))
                  refine WL.gT 85 rfl rfl rfl (WL.op rfl (opW.loadV rfl (hS.ld1 (b := b3) (cs := Enc.enc R) (by first | exact .h0 | exact .h1 | exact .h2 | exact .h3 | exact .h4 | exact .h5 | exact .h6 | exact .h7 | exact .h8 | exact .h9 | exact .h10 | exact .h11 | exact .h12 | exact .h13 | exact .h14) (Ready.at_ins R)) ?_))
                  refine WL.gT 85 rfl rfl rfl (WL.op rfl (opW.lenV rfl ((hR.fi.bel hS.old)) ?_))
                  refine WL.gT 85 rfl rfl rfl (WL.op rfl (opW.geq rfl rfl ?_))
                  refine WL.op rfl (opW.pickT rfl rfl ?_)
                  refine WL.nil ?_
                  refine thenQ_n (hK16 _ _ ?_)
                  refine WC.cond _ rfl (fun hc2 => ?_) (fun hc2 => ?_)
                  ·
                    have hr2 := hc2
                    try simp only [decide_eq_true_eq, decide_eq_false_iff_not, Bool.and_eq_true, Bool.or_eq_true, Bool.and_eq_false_iff, Bool.or_eq_false_iff, Bool.not_eq_true', Bool.not_eq_false', Int.not_lt, Int.not_le] at hc2
                    refine WC.seq (fun K17 hK17 => ?_)
                    refine WC.region ?_
                    refine WL.op rfl (opW.moveI rfl ?_)
                    refine WL.op rfl (opW.boolT (rfl) (opW.eql rfl rfl ⟨rfl, rfl⟩) ?_)
                    refine WL.op rfl (opW.moveB rfl ?_)
                    refine WL.gT 98 rfl rfl rfl (WL.op rfl (opW.call (lives15 _ (hg.bel hS.old)) rfl ?_))
                    rintro _ w ⟨rfl, hw⟩; replace hS := hS.bel hw
                    refine WL.op rfl (opW.pickT rfl rfl ?_)
                    refine WL.op rfl (opW.assignB rfl ?_)
                    refine WL.nil ?_
                    refine thenQ_n (hK17 _ _ ?_)
                    refine WC.ret ?_
                    refine thenQ_r ?_
                    refine bodyQ_ret (.tmpB rfl .nil) ?_
                    exact ⟨rfl, hS.old⟩
                  ·
                    have hr2 := hc2
                    try simp only [decide_eq_true_eq, decide_eq_false_iff_not, Bool.and_eq_true, Bool.or_eq_true, Bool.and_eq_false_iff, Bool.or_eq_false_iff, Bool.not_eq_true', Bool.not_eq_false', Int.not_lt, Int.not_le] at hc2
                    have hA : AheadIs R r qs l so (Ready.withI { R with roles := s2 } s3) d (UInt8.ofNat r.length) sp := aheadIs rfl (fun q hq => by obtain ⟨k, hk, rfl⟩ := List.getElem_of_mem hq; rw [← (hin k (by omega) hk).1]; exact hpr _ (List.getElem_mem _)) hlen hlw hn8 (by omega)
                    have hchl := chgF_len r (accF R r qs l)
                    have hchl2 := chgF_len (r ++ [rhoB]) (accF (Ready.withI { R with roles := s2 } s3) (r ++ [rhoB]) (qs ++ [qB (UInt8.ofNat r.length) d]) (l ++ [az]))
                    rw [List.length_append] at hchl2
                    obtain ⟨xs, hxs⟩ : ∃ x, (chgF (r ++ [rhoB]) (accF (Ready.withI { R with roles := s2 } s3) (r ++ [rhoB]) (qs ++ [qB (UInt8.ofNat r.length) d]) (l ++ [az]))) = x := ⟨_, rfl⟩
                    obtain ⟨ys, hys⟩ : ∃ x, (chgF r (accF R r qs l)) = x := ⟨_, rfl⟩
                    rw [hxs, hys] at hS
                    rw [hxs] at hchl2
                    rw [hys] at hchl
                    have hA1 := hA.err
                    have hA2 := hA.ok
                    rw [hxs, hys] at hA1 hA2
                    refine WC.skip ?_
                    refine thenQ_n (hK15 _ _ ?_)
                    refine WC.seq (fun K18 hK18 => ?_)
                    refine WC.region ?_
                    refine WL.op rfl (opW.fieldAddrB rfl ?_)
                    refine WL.op rfl (opW.loadV rfl (hS.ld1 (b := b10) (cs := Enc.enc (outF (Ready.withI { R with roles := s2 } s3) (r ++ [rhoB]) (qs ++ [qB (UInt8.ofNat r.length) d]) (l ++ [az]) sp)) (by first | exact .h0 | exact .h1 | exact .h2 | exact .h3 | exact .h4 | exact .h5 | exact .h6 | exact .h7 | exact .h8 | exact .h9 | exact .h10 | exact .h11 | exact .h12 | exact .h13 | exact .h14) (Outcome.at_changed (outF (Ready.withI { R with roles := s2 } s3) (r ++ [rhoB]) (qs ++ [qB (UInt8.ofNat r.length) d]) (l ++ [az]) sp))) ?_)
                    refine WL.op rfl (opW.lenV rfl ((hS.sl (v := (outF (Ready.withI { R with roles := s2 } s3) (r ++ [rhoB]) (qs ++ [qB (UInt8.ofNat r.length) d]) (l ++ [az]) sp).changed.v) (xs := xs) (by first | exact .h0 | exact .h1 | exact .h2 | exact .h3 | exact .h4 | exact .h5 | exact .h6 | exact .h7 | exact .h8 | exact .h9 | exact .h10 | exact .h11 | exact .h12 | exact .h13 | exact .h14))) ?_)
                    refine WL.op rfl (opW.fieldAddrB rfl ?_)
                    refine WL.op rfl (opW.loadV rfl (hS.ld1 (b := b7) (cs := Enc.enc (outF R r qs l so)) (by first | exact .h0 | exact .h1 | exact .h2 | exact .h3 | exact .h4 | exact .h5 | exact .h6 | exact .h7 | exact .h8 | exact .h9 | exact .h10 | exact .h11 | exact .h12 | exact .h13 | exact .h14) (Outcome.at_changed (outF R r qs l so))) ?_)
                    refine WL.op rfl (opW.lenV rfl ((hS.sl (v := (outF R r qs l so).changed.v) (xs := ys) (by first | exact .h0 | exact .h1 | exact .h2 | exact .h3 | exact .h4 | exact .h5 | exact .h6 | exact .h7 | exact .h8 | exact .h9 | exact .h10 | exact .h11 | exact .h12 | exact .h13 | exact .h14))) ?_)
                    refine WL.op rfl (opW.eql rfl rfl ?_)
                    refine WL.op rfl (opW.assignB rfl ?_)
                    refine WL.nil ?_
                    refine thenQ_n (hK18 _ _ ?_)
                    refine WC.seq (fun K19 hK19 => ?_)
                    refine WC.seq (fun K20 hK20 => ?_)
                    refine WC.region ?_
                    refine WL.op rfl (opW.assignI rfl ?_)
                    refine WL.nil ?_
                    refine thenQ_n (hK20 _ _ ?_)
                    refine WC.block ?_
                    refine WC.loop (fun q f w => ∃ (k : Nat) (b : Bool), Fits [(3, .pointer (some ⟨b3, 0, none⟩)), (7, .pointer (some ⟨b7, 0, none⟩)), (10, .pointer (some ⟨b10, 0, none⟩)), (12, .bool b), (13, .int .i64 (k : Int))] f ∧ St w0 [blkE b10 (Enc.enc (outF (Ready.withI { R with roles := s2 } s3) (r ++ [rhoB]) (qs ++ [qB (UInt8.ofNat r.length) d]) (l ++ [az]) sp)) 54, ownE (outF (Ready.withI { R with roles := s2 } s3) (r ++ [rhoB]) (qs ++ [qB (UInt8.ofNat r.length) d]) (l ++ [az]) sp).changed.v 64 xs, blkE b7 (Enc.enc (outF R r qs l so)) 54, ownE (outF R r qs l so).changed.v 64 ys, blkE b3 (Enc.enc R) 41] w ∧ b = decide (xs.length = ys.length ∧ xs.take k = ys.take k) ∧ k ≤ ys.length ∧ q = ys.length - k) (ys.length) ?_ ?_
                    ·
                      exact ⟨0, _, ⟨rfl, rfl, rfl, rfl, rfl, trivial⟩, hS, by rw [List.take_zero, List.take_zero]; exact decide_eq_decide.2 ⟨fun h => ⟨by omega, rfl⟩, fun h => by omega⟩, Nat.zero_le _, rfl⟩
                    ·
                      rintro q f w ⟨k, b, hfit, hS, hb, hk0, hm⟩
                      refine WC.fits _ hfit (fun g => ?_)
                      clear hfit
                      refine WC.seq (fun K21 hK21 => ?_)
                      refine WC.seq (fun K22 hK22 => ?_)
                      refine WC.region ?_
                      refine WL.op rfl (opW.moveI rfl ?_)
                      refine WL.op rfl (opW.fieldAddrB rfl ?_)
                      refine WL.op rfl (opW.loadV rfl (hS.ld1 (b := b7) (cs := Enc.enc (outF R r qs l so)) (by first | exact .h0 | exact .h1 | exact .h2 | exact .h3 | exact .h4 | exact .h5 | exact .h6 | exact .h7 | exact .h8 | exact .h9 | exact .h10 | exact .h11 | exact .h12 | exact .h13 | exact .h14) (Outcome.at_changed (outF R r qs l so))) ?_)
                      refine WL.op rfl (opW.lenV rfl ((hS.sl (v := (outF R r qs l so).changed.v) (xs := ys) (by first | exact .h0 | exact .h1 | exact .h2 | exact .h3 | exact .h4 | exact .h5 | exact .h6 | exact .h7 | exact .h8 | exact .h9 | exact .h10 | exact .h11 | exact .h12 | exact .h13 | exact .h14))) ?_)
                      refine WL.op rfl (opW.lss rfl rfl ?_)
                      refine WL.op rfl (opW.moveB rfl ?_)
                      refine WL.gd _ 113 _ rfl rfl rfl rfl (fun hg114 => opW.moveB rfl ⟨rfl, Bel.refl _⟩) (fun w hw => ?_)
                      replace hS := hS.bel hw
                      refine WL.op rfl (opW.pickAnd rfl (by first | rfl) rfl ?_)
                      refine WL.nil ?_
                      refine thenQ_n (hK22 _ _ ?_)
                      refine WC.cond _ rfl (fun hc3 => ?_) (fun hc3 => ?_)
                      ·
                        have hr3 := hc3
                        try simp only [decide_eq_true_eq, decide_eq_false_iff_not, Bool.and_eq_true, Bool.or_eq_true, Bool.and_eq_false_iff, Bool.or_eq_false_iff, Bool.not_eq_true', Bool.not_eq_false', Int.not_lt, Int.not_le] at hc3
                        obtain ⟨hk1, hb1⟩ := hc3
                        have hky : k < ys.length := by omega
                        obtain ⟨hlxy, htk⟩ := of_decide_eq_true (hb.symm.trans hb1)
                        have hkx : k < xs.length := by omega
                        refine WC.skip ?_
                        refine thenQ_n (hK21 _ _ ?_)
                        refine WC.seq (fun K23 hK23 => ?_)
                        refine WC.block ?_
                        refine WC.draw 12 (.look 0 (.look 1 (.look 2 (.look 3 (.look 4 (.look 5 (.look 6 (.look 7 (.look 8 (.look 9 (.look 10 (.look 11 .nil)))))))))))) (by kernel_rfl) (fun _ _ _ h => h) (fun w1 hw1 => ?_)
                        replace hS := hS.bel hw1
                        have hS1 := hS
                        have hT := St.start w1
                        refine ML.look rfl rfl rfl (fun w hw => (by have hS := hS1.bel hw; exact opW.fieldAddrB rfl ⟨rfl, rfl⟩)) ?_
                        refine ML.look rfl rfl rfl (fun w hw => (by have hS := hS1.bel hw; exact opW.loadV rfl (hS.ld1 (b := b10) (cs := Enc.enc (outF (Ready.withI { R with roles := s2 } s3) (r ++ [rhoB]) (qs ++ [qB (UInt8.ofNat r.length) d]) (l ++ [az]) sp)) (by first | exact .h0 | exact .h1 | exact .h2 | exact .h3 | exact .h4 | exact .h5 | exact .h6 | exact .h7 | exact .h8 | exact .h9 | exact .h10 | exact .h11 | exact .h12 | exact .h13 | exact .h14) (Outcome.at_changed (outF (Ready.withI { R with roles := s2 } s3) (r ++ [rhoB]) (qs ++ [qB (UInt8.ofNat r.length) d]) (l ++ [az]) sp))) ⟨rfl, rfl⟩)) ?_
                        refine ML.look rfl rfl rfl (fun w hw => (by have hS := hS1.bel hw; exact opW.moveI rfl ⟨rfl, rfl⟩)) ?_
                        refine ML.look rfl rfl rfl (fun w hw => (by have hS := hS1.bel hw; exact opW.idxV rfl ((hS.sl (v := (outF (Ready.withI { R with roles := s2 } s3) (r ++ [rhoB]) (qs ++ [qB (UInt8.ofNat r.length) d]) (l ++ [az]) sp).changed.v) (xs := xs) (by first | exact .h0 | exact .h1 | exact .h2 | exact .h3 | exact .h4 | exact .h5 | exact .h6 | exact .h7 | exact .h8 | exact .h9 | exact .h10 | exact .h11 | exact .h12 | exact .h13 | exact .h14))) rfl (by omega) ⟨rfl, rfl⟩)) ?_
                        refine ML.look rfl rfl rfl (fun w hw => (by have hS := hS1.bel hw; exact opW.loadV rfl (((hS.sl (v := (outF (Ready.withI { R with roles := s2 } s3) (r ++ [rhoB]) (qs ++ [qB (UInt8.ofNat r.length) d]) (l ++ [az]) sp).changed.v) (xs := xs) (by first | exact .h0 | exact .h1 | exact .h2 | exact .h3 | exact .h4 | exact .h5 | exact .h6 | exact .h7 | exact .h8 | exact .h9 | exact .h10 | exact .h11 | exact .h12 | exact .h13 | exact .h14)).isPt hkx).ldA (Enc.size_eq xs[k])) ⟨rfl, rfl⟩)) ?_
                        refine ML.look rfl rfl rfl (fun w hw => (by have hS := hS1.bel hw; exact opW.fieldAddrB rfl ⟨rfl, rfl⟩)) ?_
                        refine ML.look rfl rfl rfl (fun w hw => (by have hS := hS1.bel hw; exact opW.loadV rfl (hS.ld1 (b := b7) (cs := Enc.enc (outF R r qs l so)) (by first | exact .h0 | exact .h1 | exact .h2 | exact .h3 | exact .h4 | exact .h5 | exact .h6 | exact .h7 | exact .h8 | exact .h9 | exact .h10 | exact .h11 | exact .h12 | exact .h13 | exact .h14) (Outcome.at_changed (outF R r qs l so))) ⟨rfl, rfl⟩)) ?_
                        refine ML.look rfl rfl rfl (fun w hw => (by have hS := hS1.bel hw; exact opW.moveI rfl ⟨rfl, rfl⟩)) ?_
                        refine ML.look rfl rfl rfl (fun w hw => (by have hS := hS1.bel hw; exact opW.idxV rfl ((hS.sl (v := (outF R r qs l so).changed.v) (xs := ys) (by first | exact .h0 | exact .h1 | exact .h2 | exact .h3 | exact .h4 | exact .h5 | exact .h6 | exact .h7 | exact .h8 | exact .h9 | exact .h10 | exact .h11 | exact .h12 | exact .h13 | exact .h14))) rfl (by omega) ⟨rfl, rfl⟩)) ?_
                        refine ML.look rfl rfl rfl (fun w hw => (by have hS := hS1.bel hw; exact opW.loadV rfl (((hS.sl (v := (outF R r qs l so).changed.v) (xs := ys) (by first | exact .h0 | exact .h1 | exact .h2 | exact .h3 | exact .h4 | exact .h5 | exact .h6 | exact .h7 | exact .h8 | exact .h9 | exact .h10 | exact .h11 | exact .h12 | exact .h13 | exact .h14)).isPt hky).ldA (Enc.size_eq ys[k])) ⟨rfl, rfl⟩)) ?_
                        refine ML.look rfl rfl rfl (fun w hw => (by have hS := hS1.bel hw; exact opW.eqlE rfl rfl ⟨rfl, rfl⟩)) ?_
                        refine ML.look rfl rfl rfl (fun w hw => (by have hS := hS1.bel hw; exact opW.assignB rfl ⟨rfl, rfl⟩)) ?_
                        refine ML.nil ?_
                        refine blockQ_n ?_
                        refine thenQ_n (hK23 _ _ ?_)
                        refine WC.region ?_
                        refine WL.op rfl (opW.moveI rfl ?_)
                        refine WL.op rfl (opW.add rfl rfl (wrap_i64 (by omega)) ?_)
                        refine WL.op rfl (opW.assignI rfl ?_)
                        refine WL.nil ?_
                        refine thenQ_n ?_
                        exact ⟨ys.length - (k + 1), by omega, k + 1, _, ⟨rfl, rfl, rfl, rfl, congrArg (Value.int .i64) (by omega), trivial⟩, hS.sub (by repeat (first | with_reducible exact List.nil_sublist _ | with_reducible exact List.Sublist.refl _ | with_reducible refine List.Sublist.cons₂ _ ?_ | with_reducible refine List.Sublist.cons _ ?_)), take_dec hkx hky hlxy htk, by omega, rfl⟩
                      ·
                        have hr3 := hc3
                        try simp only [decide_eq_true_eq, decide_eq_false_iff_not, Bool.and_eq_true, Bool.or_eq_true, Bool.and_eq_false_iff, Bool.or_eq_false_iff, Bool.not_eq_true', Bool.not_eq_false', Int.not_lt, Int.not_le] at hc3
                        have hbx : xs = ys → b = true := by
                          intro he
                          rw [hb, he]; exact decide_eq_true ⟨rfl, rfl⟩
                        refine WC.exit ?_
                        refine thenQ_e ?_
                        refine thenQ_e ?_
                        refine blockQ_hit ?_
                        refine thenQ_n (hK19 _ _ ?_)
                        refine WC.seq (fun K24 hK24 => ?_)
                        refine WC.seq (fun K25 hK25 => ?_)
                        refine WC.region ?_
                        refine WL.op rfl (opW.fieldAddrB rfl ?_)
                        refine WL.op rfl (opW.loadV rfl (hS.ld1 (b := b7) (cs := Enc.enc (outF R r qs l so)) (by first | exact .h0 | exact .h1 | exact .h2 | exact .h3 | exact .h4 | exact .h5 | exact .h6 | exact .h7 | exact .h8 | exact .h9 | exact .h10 | exact .h11 | exact .h12 | exact .h13 | exact .h14) (Outcome.at_fail (outF R r qs l so))) ?_)
                        refine WL.op rfl (opW.neq rfl rfl ?_)
                        refine WL.nil ?_
                        refine thenQ_n (hK25 _ _ ?_)
                        refine WC.cond _ rfl (fun hc4 => ?_) (fun hc4 => ?_)
                        ·
                          have hr4 := hc4
                          try simp only [decide_eq_true_eq, decide_eq_false_iff_not, Bool.and_eq_true, Bool.or_eq_true, Bool.and_eq_false_iff, Bool.or_eq_false_iff, Bool.not_eq_true', Bool.not_eq_false', Int.not_lt, Int.not_le] at hc4
                          refine WC.seq (fun K26 hK26 => ?_)
                          refine WC.region ?_
                          refine WL.op rfl (opW.fieldAddrB rfl ?_)
                          refine WL.op rfl (opW.loadV rfl (hS.ld1 (b := b10) (cs := Enc.enc (outF (Ready.withI { R with roles := s2 } s3) (r ++ [rhoB]) (qs ++ [qB (UInt8.ofNat r.length) d]) (l ++ [az]) sp)) (by first | exact .h0 | exact .h1 | exact .h2 | exact .h3 | exact .h4 | exact .h5 | exact .h6 | exact .h7 | exact .h8 | exact .h9 | exact .h10 | exact .h11 | exact .h12 | exact .h13 | exact .h14) (Outcome.at_fail (outF (Ready.withI { R with roles := s2 } s3) (r ++ [rhoB]) (qs ++ [qB (UInt8.ofNat r.length) d]) (l ++ [az]) sp))) ?_)
                          refine WL.op rfl (opW.fieldAddrB rfl ?_)
                          refine WL.op rfl (opW.loadV rfl (hS.ld1 (b := b7) (cs := Enc.enc (outF R r qs l so)) (by first | exact .h0 | exact .h1 | exact .h2 | exact .h3 | exact .h4 | exact .h5 | exact .h6 | exact .h7 | exact .h8 | exact .h9 | exact .h10 | exact .h11 | exact .h12 | exact .h13 | exact .h14) (Outcome.at_fail (outF R r qs l so))) ?_)
                          refine WL.op rfl (opW.eql rfl rfl ?_)
                          refine WL.op rfl (opW.moveB rfl ?_)
                          refine WL.gd _ 137 _ rfl rfl rfl rfl (fun hg138 => opW.fieldAddrB rfl ⟨rfl, Bel.refl _⟩) (fun w hw => ?_)
                          replace hS := hS.bel hw
                          refine WL.gd _ 137 (.int .i64 (outF (Ready.withI { R with roles := s2 } s3) (r ++ [rhoB]) (qs ++ [qB (UInt8.ofNat r.length) d]) (l ++ [az]) sp).at_) rfl rfl rfl rfl (fun hg139 => ?_) (fun w hw => ?_)
                          · refine opW.loadV (by first | exact gv_of rfl hg139 | rfl) (hS.ld1 (b := b10) (cs := Enc.enc (outF (Ready.withI { R with roles := s2 } s3) (r ++ [rhoB]) (qs ++ [qB (UInt8.ofNat r.length) d]) (l ++ [az]) sp)) (by first | exact .h0 | exact .h1 | exact .h2 | exact .h3 | exact .h4 | exact .h5 | exact .h6 | exact .h7 | exact .h8 | exact .h9 | exact .h10 | exact .h11 | exact .h12 | exact .h13 | exact .h14) (Outcome.at_at_ (outF (Ready.withI { R with roles := s2 } s3) (r ++ [rhoB]) (qs ++ [qB (UInt8.ofNat r.length) d]) (l ++ [az]) sp))) ⟨rfl, Bel.refl _⟩
                          replace hS := hS.bel hw
                          refine WL.gd _ 137 _ rfl rfl rfl rfl (fun hg140 => opW.fieldAddrB rfl ⟨rfl, Bel.refl _⟩) (fun w hw => ?_)
                          replace hS := hS.bel hw
                          refine WL.gd _ 137 (.int .i64 (outF R r qs l so).at_) rfl rfl rfl rfl (fun hg141 => ?_) (fun w hw => ?_)
                          · refine opW.loadV (by first | exact gv_of rfl hg141 | rfl) (hS.ld1 (b := b7) (cs := Enc.enc (outF R r qs l so)) (by first | exact .h0 | exact .h1 | exact .h2 | exact .h3 | exact .h4 | exact .h5 | exact .h6 | exact .h7 | exact .h8 | exact .h9 | exact .h10 | exact .h11 | exact .h12 | exact .h13 | exact .h14) (Outcome.at_at_ (outF R r qs l so))) ⟨rfl, Bel.refl _⟩
                          replace hS := hS.bel hw
                          refine WL.gd _ 137 _ rfl rfl rfl rfl (fun hg142 => opW.eql (by first | exact gv_of rfl hg142 | rfl) (by first | exact gv_of rfl hg142 | rfl) ⟨rfl, Bel.refl _⟩) (fun w hw => ?_)
                          replace hS := hS.bel hw
                          refine WL.op rfl (opW.pickAnd rfl (by first | rfl) rfl ?_)
                          refine WL.op rfl (opW.moveB rfl ?_)
                          refine WL.gd _ 144 _ rfl rfl rfl rfl (fun hg145 => opW.fieldAddrB rfl ⟨rfl, Bel.refl _⟩) (fun w hw => ?_)
                          replace hS := hS.bel hw
                          refine WL.gd _ 144 (.int .u64 (((outF (Ready.withI { R with roles := s2 } s3) (r ++ [rhoB]) (qs ++ [qB (UInt8.ofNat r.length) d]) (l ++ [az]) sp).units : Nat) : Int)) rfl rfl rfl rfl (fun hg146 => ?_) (fun w hw => ?_)
                          · refine opW.loadV (by first | exact gv_of rfl hg146 | rfl) (hS.ld1 (b := b10) (cs := Enc.enc (outF (Ready.withI { R with roles := s2 } s3) (r ++ [rhoB]) (qs ++ [qB (UInt8.ofNat r.length) d]) (l ++ [az]) sp)) (by first | exact .h0 | exact .h1 | exact .h2 | exact .h3 | exact .h4 | exact .h5 | exact .h6 | exact .h7 | exact .h8 | exact .h9 | exact .h10 | exact .h11 | exact .h12 | exact .h13 | exact .h14) (Outcome.at_units (outF (Ready.withI { R with roles := s2 } s3) (r ++ [rhoB]) (qs ++ [qB (UInt8.ofNat r.length) d]) (l ++ [az]) sp))) ⟨rfl, Bel.refl _⟩
                          replace hS := hS.bel hw
                          refine WL.gd _ 144 _ rfl rfl rfl rfl (fun hg147 => opW.fieldAddrB rfl ⟨rfl, Bel.refl _⟩) (fun w hw => ?_)
                          replace hS := hS.bel hw
                          refine WL.gd _ 144 (.int .u64 (((outF R r qs l so).units : Nat) : Int)) rfl rfl rfl rfl (fun hg148 => ?_) (fun w hw => ?_)
                          · refine opW.loadV (by first | exact gv_of rfl hg148 | rfl) (hS.ld1 (b := b7) (cs := Enc.enc (outF R r qs l so)) (by first | exact .h0 | exact .h1 | exact .h2 | exact .h3 | exact .h4 | exact .h5 | exact .h6 | exact .h7 | exact .h8 | exact .h9 | exact .h10 | exact .h11 | exact .h12 | exact .h13 | exact .h14) (Outcome.at_units (outF R r qs l so))) ⟨rfl, Bel.refl _⟩
                          replace hS := hS.bel hw
                          refine WL.gd _ 144 _ rfl rfl rfl rfl (fun hg149 => opW.eql (by first | exact gv_of rfl hg149 | rfl) (by first | exact gv_of rfl hg149 | rfl) ⟨rfl, Bel.refl _⟩) (fun w hw => ?_)
                          replace hS := hS.bel hw
                          refine WL.op rfl (opW.pickAnd rfl (by first | rfl) rfl ?_)
                          refine WL.op rfl (opW.moveB rfl ?_)
                          refine WL.gd _ 151 _ rfl rfl rfl rfl (fun hg152 => opW.moveB rfl ⟨rfl, Bel.refl _⟩) (fun w hw => ?_)
                          replace hS := hS.bel hw
                          refine WL.op rfl (opW.pickAnd rfl (by first | rfl) rfl ?_)
                          refine WL.op rfl (opW.moveB rfl ?_)
                          refine WL.gd _ 154 _ rfl rfl rfl rfl (fun hg155 => opW.fieldAddrB rfl ⟨rfl, Bel.refl _⟩) (fun w hw => ?_)
                          replace hS := hS.bel hw
                          refine WL.gd _ 154 (.int .i64 (outF R r qs l so).fail) rfl rfl rfl rfl (fun hg156 => ?_) (fun w hw => ?_)
                          · refine opW.loadV (by first | exact gv_of rfl hg156 | rfl) (hS.ld1 (b := b7) (cs := Enc.enc (outF R r qs l so)) (by first | exact .h0 | exact .h1 | exact .h2 | exact .h3 | exact .h4 | exact .h5 | exact .h6 | exact .h7 | exact .h8 | exact .h9 | exact .h10 | exact .h11 | exact .h12 | exact .h13 | exact .h14) (Outcome.at_fail (outF R r qs l so))) ⟨rfl, Bel.refl _⟩
                          replace hS := hS.bel hw
                          refine WL.gd _ 154 _ rfl rfl rfl rfl (fun hg157 => opW.eql (by first | exact gv_of rfl hg157 | rfl) rfl ⟨rfl, Bel.refl _⟩) (fun w hw => ?_)
                          replace hS := hS.bel hw
                          refine WL.op rfl (opW.pickOr rfl rfl (by first | rfl) ?_)
                          refine WL.op rfl (opW.moveB rfl ?_)
                          refine WL.gd _ 159 (.bool true) rfl rfl rfl rfl (fun hg160 => ?_) (fun w hw => ?_)
                          · refine opW.call (lives15 _ (hg.bel hS.old)) rfl ?_
                            rintro v w ⟨rfl, hw⟩; replace hS := hS.bel hw
                            exact ⟨rfl, ‹_›⟩
                          replace hS := hS.bel hw
                          refine WL.op rfl (opW.pickAnd rfl (by first | rfl) rfl ?_)
                          refine WL.op rfl (opW.assignB rfl ?_)
                          refine WL.nil ?_
                          refine thenQ_n (hK26 _ _ ?_)
                          refine WC.ret ?_
                          refine thenQ_r ?_
                          refine bodyQ_ret (.tmpB rfl .nil) ?_
                          refine ⟨congrArg Value.bool ?_, hS.old⟩
                          have hf0 : (outF R r qs l so).fail ≠ 0 := of_decide_eq_false (by simpa using hr4)
                          by_cases h8 : (outF R r qs l so).fail = 8
                          · rw [decide_eq_true h8, Bool.or_true, Bool.true_and]
                          · obtain ⟨a1, a2, a3, a4⟩ := hA1 hf0 h8
                            rw [decide_eq_true a1, decide_eq_true a2, a3, decide_eq_true rfl, hbx a4]
                            rfl
                        ·
                          have hr4 := hc4
                          try simp only [decide_eq_true_eq, decide_eq_false_iff_not, Bool.and_eq_true, Bool.or_eq_true, Bool.and_eq_false_iff, Bool.or_eq_false_iff, Bool.not_eq_true', Bool.not_eq_false', Int.not_lt, Int.not_le] at hc4
                          refine WC.skip ?_
                          refine thenQ_n (hK24 _ _ ?_)
                          refine WC.seq (fun K27 hK27 => ?_)
                          refine WC.seq (fun K28 hK28 => ?_)
                          refine WC.region ?_
                          refine WL.op rfl (opW.fieldAddrB rfl ?_)
                          refine WL.op rfl (opW.fieldAddrB rfl ?_)
                          refine WL.op rfl (opW.loadV rfl (hS.ld1 (b := b3) (cs := Enc.enc R) (by first | exact .h0 | exact .h1 | exact .h2 | exact .h3 | exact .h4 | exact .h5 | exact .h6 | exact .h7 | exact .h8 | exact .h9 | exact .h10 | exact .h11 | exact .h12 | exact .h13 | exact .h14) (Ready.at_budget_units R)) ?_)
                          refine WL.op rfl (opW.lss rfl rfl ?_)
                          refine WL.op rfl (opW.moveB rfl ?_)
                          refine WL.gd _ 166 _ rfl rfl rfl rfl (fun hg167 => opW.fieldAddrB rfl ⟨rfl, Bel.refl _⟩) (fun w hw => ?_)
                          replace hS := hS.bel hw
                          refine WL.gd _ 166 (.int .u64 (((outF R r qs l so).units : Nat) : Int)) rfl rfl rfl rfl (fun hg168 => ?_) (fun w hw => ?_)
                          · refine opW.loadV (by first | exact gv_of rfl hg168 | rfl) (hS.ld1 (b := b7) (cs := Enc.enc (outF R r qs l so)) (by first | exact .h0 | exact .h1 | exact .h2 | exact .h3 | exact .h4 | exact .h5 | exact .h6 | exact .h7 | exact .h8 | exact .h9 | exact .h10 | exact .h11 | exact .h12 | exact .h13 | exact .h14) (Outcome.at_units (outF R r qs l so))) ⟨rfl, Bel.refl _⟩
                          replace hS := hS.bel hw
                          refine WL.gd _ 166 _ rfl rfl rfl rfl (fun hg169 => opW.fieldAddrB rfl ⟨rfl, Bel.refl _⟩) (fun w hw => ?_)
                          replace hS := hS.bel hw
                          refine WL.gd _ 166 _ rfl rfl rfl rfl (fun hg170 => opW.fieldAddrB (by first | exact gv_of rfl hg170 | rfl) ⟨rfl, Bel.refl _⟩) (fun w hw => ?_)
                          replace hS := hS.bel hw
                          refine WL.gd _ 166 (.int .u64 ((R.budget.units : Nat) : Int)) rfl rfl rfl rfl (fun hg171 => ?_) (fun w hw => ?_)
                          · refine opW.loadV (by first | exact gv_of rfl hg171 | rfl) (hS.ld1 (b := b3) (cs := Enc.enc R) (by first | exact .h0 | exact .h1 | exact .h2 | exact .h3 | exact .h4 | exact .h5 | exact .h6 | exact .h7 | exact .h8 | exact .h9 | exact .h10 | exact .h11 | exact .h12 | exact .h13 | exact .h14) (Ready.at_budget_units R)) ⟨rfl, Bel.refl _⟩
                          replace hS := hS.bel hw
                          refine WL.gd _ 166 (.int .u64 ((R.budget.units - 150 : Nat) : Int)) rfl rfl rfl rfl (fun hg172 => ?_) (fun w hw => ?_)
                          · refine opW.sub (by first | exact gv_of rfl hg172 | rfl) rfl ((show IntKind.u64.wrap ((R.budget.units : Int) - 150) = ((R.budget.units - 150 : Nat) : Int) from nsub (b := 150) (by simp only [beq_iff_eq, decide_eq_false_iff_not] at hg172; omega) (by have := hR.bu; omega))) ⟨rfl, Bel.refl _⟩
                          replace hS := hS.bel hw
                          refine WL.gd _ 166 _ rfl rfl rfl rfl (fun hg173 => opW.gtr (by first | exact gv_of rfl hg173 | rfl) (by first | exact gv_of rfl hg173 | rfl) ⟨rfl, Bel.refl _⟩) (fun w hw => ?_)
                          replace hS := hS.bel hw
                          refine WL.op rfl (opW.pickOr rfl rfl (by first | rfl) ?_)
                          refine WL.nil ?_
                          refine thenQ_n (hK28 _ _ ?_)
                          refine WC.cond _ rfl (fun hc5 => ?_) (fun hc5 => ?_)
                          ·
                            have hr5 := hc5
                            try simp only [decide_eq_true_eq, decide_eq_false_iff_not, Bool.and_eq_true, Bool.or_eq_true, Bool.and_eq_false_iff, Bool.or_eq_false_iff, Bool.not_eq_true', Bool.not_eq_false', Int.not_lt, Int.not_le] at hc5
                            have hf0 : (outF R r qs l so).fail = 0 := by simpa using hc4
                            obtain ⟨a1, a2⟩ := hA.lim hf0 (by omega)
                            refine WC.seq (fun K29 hK29 => ?_)
                            refine WC.region ?_
                            refine WL.op rfl (opW.fieldAddrB rfl ?_)
                            refine WL.op rfl (opW.loadV rfl (hS.ld1 (b := b10) (cs := Enc.enc (outF (Ready.withI { R with roles := s2 } s3) (r ++ [rhoB]) (qs ++ [qB (UInt8.ofNat r.length) d]) (l ++ [az]) sp)) (by first | exact .h0 | exact .h1 | exact .h2 | exact .h3 | exact .h4 | exact .h5 | exact .h6 | exact .h7 | exact .h8 | exact .h9 | exact .h10 | exact .h11 | exact .h12 | exact .h13 | exact .h14) (Outcome.at_fail (outF (Ready.withI { R with roles := s2 } s3) (r ++ [rhoB]) (qs ++ [qB (UInt8.ofNat r.length) d]) (l ++ [az]) sp))) ?_)
                            refine WL.op rfl (opW.boolT (decide_eq_true a1) (opW.eql rfl rfl ⟨rfl, rfl⟩) ?_)
                            refine WL.op rfl (opW.moveB rfl ?_)
                            refine WL.gT 178 rfl rfl rfl (WL.op rfl (opW.fieldAddrB rfl ?_))
                            refine WL.gT 178 rfl rfl rfl (WL.op rfl (opW.loadV rfl (hS.ld1 (b := b10) (cs := Enc.enc (outF (Ready.withI { R with roles := s2 } s3) (r ++ [rhoB]) (qs ++ [qB (UInt8.ofNat r.length) d]) (l ++ [az]) sp)) (by first | exact .h0 | exact .h1 | exact .h2 | exact .h3 | exact .h4 | exact .h5 | exact .h6 | exact .h7 | exact .h8 | exact .h9 | exact .h10 | exact .h11 | exact .h12 | exact .h13 | exact .h14) (Outcome.at_units (outF (Ready.withI { R with roles := s2 } s3) (r ++ [rhoB]) (qs ++ [qB (UInt8.ofNat r.length) d]) (l ++ [az]) sp))) ?_))
                            refine WL.gT 178 rfl rfl rfl (WL.op rfl (opW.fieldAddrB rfl ?_))
                            refine WL.gT 178 rfl rfl rfl (WL.op rfl (opW.fieldAddrB rfl ?_))
                            refine WL.gT 178 rfl rfl rfl (WL.op rfl (opW.loadV rfl (hS.ld1 (b := b3) (cs := Enc.enc R) (by first | exact .h0 | exact .h1 | exact .h2 | exact .h3 | exact .h4 | exact .h5 | exact .h6 | exact .h7 | exact .h8 | exact .h9 | exact .h10 | exact .h11 | exact .h12 | exact .h13 | exact .h14) (Ready.at_budget_units R)) ?_))
                            refine WL.gT 178 rfl rfl rfl (WL.op rfl (opW.boolT (decide_eq_true (congrArg Int.ofNat a2)) (opW.eql rfl rfl ⟨rfl, rfl⟩) ?_))
                            refine WL.op rfl (opW.pickT rfl rfl ?_)
                            refine WL.op rfl (opW.moveB rfl ?_)
                            refine WL.gT 186 rfl rfl rfl (WL.op rfl (opW.call (lives15 _ (hg.bel hS.old)) rfl ?_))
                            rintro _ w ⟨rfl, hw⟩; replace hS := hS.bel hw
                            refine WL.op rfl (opW.pickT rfl rfl ?_)
                            refine WL.op rfl (opW.assignB rfl ?_)
                            refine WL.nil ?_
                            refine thenQ_n (hK29 _ _ ?_)
                            refine WC.ret ?_
                            refine thenQ_r ?_
                            refine bodyQ_ret (.tmpB rfl .nil) ?_
                            exact ⟨rfl, hS.old⟩
                          ·
                            have hr5 := hc5
                            try simp only [decide_eq_true_eq, decide_eq_false_iff_not, Bool.and_eq_true, Bool.or_eq_true, Bool.and_eq_false_iff, Bool.or_eq_false_iff, Bool.not_eq_true', Bool.not_eq_false', Int.not_lt, Int.not_le] at hc5
                            have hf0 : (outF R r qs l so).fail = 0 := by simpa using hc4
                            obtain ⟨a1, a2, a3, a4⟩ := hA2 hf0 (by omega)
                            have hb1 := hbx a4
                            subst hb1
                            have hzu : (outF R r qs l so).units ≤ R.budget.units := (runZ_units R r qs l).1
                            refine WC.skip ?_
                            refine thenQ_n (hK27 _ _ ?_)
                            refine WC.seq (fun K30 hK30 => ?_)
                            refine WC.region ?_
                            refine WL.op rfl (opW.fieldAddrB rfl ?_)
                            refine WL.op rfl (opW.loadV rfl (hS.ld1 (b := b10) (cs := Enc.enc (outF (Ready.withI { R with roles := s2 } s3) (r ++ [rhoB]) (qs ++ [qB (UInt8.ofNat r.length) d]) (l ++ [az]) sp)) (by first | exact .h0 | exact .h1 | exact .h2 | exact .h3 | exact .h4 | exact .h5 | exact .h6 | exact .h7 | exact .h8 | exact .h9 | exact .h10 | exact .h11 | exact .h12 | exact .h13 | exact .h14) (Outcome.at_fail (outF (Ready.withI { R with roles := s2 } s3) (r ++ [rhoB]) (qs ++ [qB (UInt8.ofNat r.length) d]) (l ++ [az]) sp))) ?_)
                            refine WL.op rfl (opW.boolT (decide_eq_true a1) (opW.eql rfl rfl ⟨rfl, rfl⟩) ?_)
                            refine WL.op rfl (opW.moveB rfl ?_)
                            refine WL.gT 192 rfl rfl rfl (WL.op rfl (opW.fieldAddrB rfl ?_))
                            refine WL.gT 192 rfl rfl rfl (WL.op rfl (opW.loadV rfl (hS.ld1 (b := b10) (cs := Enc.enc (outF (Ready.withI { R with roles := s2 } s3) (r ++ [rhoB]) (qs ++ [qB (UInt8.ofNat r.length) d]) (l ++ [az]) sp)) (by first | exact .h0 | exact .h1 | exact .h2 | exact .h3 | exact .h4 | exact .h5 | exact .h6 | exact .h7 | exact .h8 | exact .h9 | exact .h10 | exact .h11 | exact .h12 | exact .h13 | exact .h14) (Outcome.at_units (outF (Ready.withI { R with roles := s2 } s3) (r ++ [rhoB]) (qs ++ [qB (UInt8.ofNat r.length) d]) (l ++ [az]) sp))) ?_))
                            refine WL.gT 192 rfl rfl rfl (WL.op rfl (opW.fieldAddrB rfl ?_))
                            refine WL.gT 192 rfl rfl rfl (WL.op rfl (opW.loadV rfl (hS.ld1 (b := b7) (cs := Enc.enc (outF R r qs l so)) (by first | exact .h0 | exact .h1 | exact .h2 | exact .h3 | exact .h4 | exact .h5 | exact .h6 | exact .h7 | exact .h8 | exact .h9 | exact .h10 | exact .h11 | exact .h12 | exact .h13 | exact .h14) (Outcome.at_units (outF R r qs l so))) ?_))
                            refine WL.gT 192 rfl rfl rfl (WL.op rfl (opW.add rfl rfl ((show IntKind.u64.wrap (((outF R r qs l so).units : Int) + 150) = (((outF R r qs l so).units + 150 : Nat) : Int) from nadd (b := 150) (by have := hR.bu; omega))) ?_))
                            refine WL.gT 192 rfl rfl rfl (WL.op rfl (opW.boolT (decide_eq_true (congrArg Int.ofNat a2)) (opW.eql rfl rfl ⟨rfl, rfl⟩) ?_))
                            refine WL.op rfl (opW.pickT rfl rfl ?_)
                            refine WL.op rfl (opW.moveB rfl ?_)
                            refine WL.gT 200 rfl rfl rfl (WL.op rfl (opW.fieldAddrB rfl ?_))
                            refine WL.gT 200 rfl rfl rfl (WL.op rfl (opW.loadV rfl (hS.ld1 (b := b10) (cs := Enc.enc (outF (Ready.withI { R with roles := s2 } s3) (r ++ [rhoB]) (qs ++ [qB (UInt8.ofNat r.length) d]) (l ++ [az]) sp)) (by first | exact .h0 | exact .h1 | exact .h2 | exact .h3 | exact .h4 | exact .h5 | exact .h6 | exact .h7 | exact .h8 | exact .h9 | exact .h10 | exact .h11 | exact .h12 | exact .h13 | exact .h14) (Outcome.at_space (outF (Ready.withI { R with roles := s2 } s3) (r ++ [rhoB]) (qs ++ [qB (UInt8.ofNat r.length) d]) (l ++ [az]) sp))) ?_))
                            refine WL.gT 200 rfl rfl rfl (WL.op rfl (opW.fieldAddrB rfl ?_))
                            refine WL.gT 200 rfl rfl rfl (WL.op rfl (opW.loadV rfl (hS.ld1 (b := b7) (cs := Enc.enc (outF R r qs l so)) (by first | exact .h0 | exact .h1 | exact .h2 | exact .h3 | exact .h4 | exact .h5 | exact .h6 | exact .h7 | exact .h8 | exact .h9 | exact .h10 | exact .h11 | exact .h12 | exact .h13 | exact .h14) (Outcome.at_space (outF R r qs l so))) ?_))
                            refine WL.gT 200 rfl rfl rfl (WL.op rfl (opW.boolT (decide_eq_true (congrArg Int.ofNat a3)) (opW.eql rfl rfl ⟨rfl, rfl⟩) ?_))
                            refine WL.op rfl (opW.pickT rfl rfl ?_)
                            refine WL.op rfl (opW.moveB rfl ?_)
                            refine WL.gT 207 rfl rfl rfl (WL.op rfl (opW.moveB rfl ?_))
                            refine WL.op rfl (opW.pickT rfl rfl ?_)
                            refine WL.op rfl (opW.moveB rfl ?_)
                            refine WL.gT 210 rfl rfl rfl (WL.op rfl (opW.call (lives15 _ (hg.bel hS.old)) rfl ?_))
                            rintro _ w ⟨rfl, hw⟩; replace hS := hS.bel hw
                            refine WL.op rfl (opW.pickT rfl rfl ?_)
                            refine WL.op rfl (opW.assignB rfl ?_)
                            refine WL.nil ?_
                            refine thenQ_n (hK30 _ _ ?_)
                            refine WC.ret ?_
                            refine bodyQ_ret (.tmpB rfl .nil) ?_
                            exact ⟨rfl, hS.old⟩

end Go.Fer
