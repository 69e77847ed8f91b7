/- folds in parts, plainly; the same outcomes -/
import Derived.Test.YthfbfhokmknfnaaDoorNC
set_option linter.all false
namespace Go.Fer
open Go Go.Proofs Go.RowKit

def StD.re (d : StD) (r : Nat) : StD := ⟨r, d.kvs⟩
theorem putsF_re (r : Nat) : ∀ (ch : List Holding) (d : StD), putsF (d.re r) ch = (putsF d ch).re r
 | [], _ => rfl
 | h :: ch, d => putsF_re r ch (d.put h.key h.account)
theorem errF_re (d : StD) (r : Nat) (x : TX) : errF (d.re r) x = errF d x := rfl
theorem chF_re (d : StD) (r : Nat) (x : TX) : chF (d.re r) x = chF d x := rfl
theorem nextF_re (d : StD) (r : Nat) (x : TX) : nextF (d.re r) x = (nextF d x).re r := by
 unfold nextF
 rw [errF_re, chF_re, putsF_re]
 split <;> rfl
theorem dAt_re (d : StD) (r : Nat) (xs : List TX) (k : Nat) : dAt (d.re r) xs k = (dAt d xs k).re r := by
 unfold dAt
 generalize xs.take k = l
 induction l generalizing d with
 | nil => rfl
 | cons x l ih => rw [List.foldl_cons, List.foldl_cons, nextF_re, ih]
theorem OcIs_re (d : StD) (r : Nat) (x : TX) (o : Outcome) (ch : List Holding) : OcIs (d.re r) x o ch = OcIs d x o ch := rfl
theorem OutIs.re {d : StD} {r : Nat} {xs : List TX} {ps : List (Outcome × List Holding)} (h : OutIs (d.re r) xs ps) : OutIs d xs ps := by
 intro j h1 h2
 have := h j h1 h2
 rw [dAt_re, OcIs_re, errF_re] at this
 exact this
theorem FoldIs.re {d : StD} {r : Nat} {xs : List TX} {k : Nat} {ps : List (Outcome × List Holding)} {e : Int} (h : FoldIs (d.re r) xs k ps e) : FoldIs d xs k ps e := by
 refine ⟨h.le, h.len, h.out.re, ?_⟩
 have := h.fin
 rw [dAt_re] at this
 exact this
/-- two outcomes, but for where the changed accounts lie -/
structure OSame (A B : Outcome) : Prop where
 h1 : A.fail = B.fail
 h2 : A.at_ = B.at_
 h3 : A.units = B.units
 h4 : A.fee = B.fee
 h5 : A.space = B.space
theorem OcIs.same {d : StD} {x : TX} {o o' : Outcome} {ch ch' : List Holding} (h : OcIs d x o ch) (h' : OcIs d x o' ch') (he : errF d x = 0) : OSame o o' ∧ ch = ch' := by
 obtain ⟨_, rfl, s, rfl⟩ := h.resolve_right (fun h => h.1 he)
 obtain ⟨_, rfl, s', rfl⟩ := h'.resolve_right (fun h => h.1 he)
 exact ⟨⟨rfl, rfl, rfl, rfl, rfl⟩, rfl⟩
theorem dAt_take {d : StD} {xs : List TX} {m k : Nat} (h : k ≤ m) : dAt d (xs.take m) k = dAt d xs k := by
 unfold dAt; rw [List.take_take, Nat.min_eq_left h]
theorem dAt_drop {d : StD} {xs : List TX} {m j : Nat} : dAt (dAt d xs m) (xs.drop m) j = dAt d xs (m + j) := by
 unfold dAt; rw [← List.foldl_append, ← List.take_add]
theorem FoldIs.uniq {d : StD} {xs : List TX} {k k' : Nat} {ps ps' : List (Outcome × List Holding)} {e e' : Int} (h : FoldIs d xs k ps e) (h' : FoldIs d xs k' ps' e') : k = k' ∧ e = e' := by
 have key : ∀ {k k' : Nat} {ps ps' : List (Outcome × List Holding)} {e e' : Int}, FoldIs d xs k ps e → FoldIs d xs k' ps' e' → ¬ k < k' := by
  intro k k' ps ps' e e' h h' hlt
  have hle := h'.le
  obtain ⟨_, hz⟩ := h'.out k (by rw [h'.len]; exact hlt) (by omega)
  rcases h.fin with ⟨h1, _⟩ | ⟨_, h1, h2⟩
  ·omega
  ·exact h2 (h1.trans hz)
 have hk : k = k' := by have h1 := key h h'; have h2 := key h' h; omega
 subst hk
 refine ⟨rfl, ?_⟩
 rcases h.fin with ⟨h1, h2⟩ | ⟨h1, h2, _⟩ <;> rcases h'.fin with ⟨h3, h4⟩ | ⟨h3, h4, _⟩
 ·rw [h2, h4]
 ·omega
 ·omega
 ·rw [h2, h4]
theorem FoldIs.part {d : StD} {xs : List TX} {m k : Nat} {ps : List (Outcome × List Holding)} {f : Int} (h : FoldIs d (xs.take m) k ps f) (hf : f ≠ 0) : FoldIs d xs k ps f := by
 rcases h.fin with ⟨_, h1⟩ | ⟨h1, h2, h3⟩
 ·exact absurd h1 hf
 ·have hl := List.length_take (i := m) (l := xs)
  refine ⟨by omega, h.len, fun j h4 h5 => ?_, .inr ⟨by omega, ?_, h3⟩⟩
  ·have hlen := h.len
   have := h.out j h4 (by omega)
   rw [dAt_take (by omega), List.getElem_take] at this
   exact this
  ·rw [dAt_take (by omega), List.getElem_take] at h2
   exact h2
theorem FoldIs.join {d : StD} {xs : List TX} {m k k2 : Nat} {ps qs : List (Outcome × List Holding)} {g : Int} (hm : m ≤ xs.length) (h : FoldIs d (xs.take m) k ps 0) (h2 : FoldIs (dAt d xs m) (xs.drop m) k2 qs g) : FoldIs d xs (m + k2) (ps ++ qs) g := by
 have hl := List.length_take (i := m) (l := xs)
 have hd := List.length_drop (i := m) (l := xs)
 have hk : k = m := by
  rcases h.fin with ⟨h1, _⟩ | ⟨_, _, h3⟩
  ·omega
  ·exact absurd rfl h3
 subst hk
 have hpl := h.len
 have hql := h2.len
 have h2l := h2.le
 refine ⟨by omega, by rw [List.length_append]; omega, fun j h4 h5 => ?_, ?_⟩
 ·rcases Nat.lt_or_ge j k with hj | hj
  ·have := h.out j (by omega) (by omega)
   rw [dAt_take (by omega), List.getElem_take] at this
   rw [List.getElem_append_left (by omega)]
   exact this
  ·rw [List.length_append] at h4
   have := h2.out (j - k) (by omega) (by omega)
   rw [dAt_drop, List.getElem_drop] at this
   rw [List.getElem_append_right (by omega)]
   have e : k + (j - k) = j := by omega
   have e2 : j - ps.length = j - k := by omega
   simp only [e] at this
   simp only [e2]
   exact this
 ·rcases h2.fin with ⟨h3, h4⟩ | ⟨h3, h4, h5⟩
  ·exact .inl ⟨by omega, h4⟩
  ·refine .inr ⟨by omega, ?_, h5⟩
   rw [dAt_drop, List.getElem_drop] at h4
   exact h4
theorem FoldIs.join_err {d : StD} {xs : List TX} {m k : Nat} {ps : List (Outcome × List Holding)} (h : FoldIs d (xs.take m) k ps 0) (hm : m ≤ xs.length) : k = m := by
 have hl := List.length_take (i := m) (l := xs)
 rcases h.fin with ⟨h1, _⟩ | ⟨_, _, h3⟩
 ·omega
 ·exact absurd rfl h3
/-- the same fold twice: the same outcomes -/
theorem FoldIs.same {d : StD} {xs : List TX} {k k' : Nat} {ps ps' : List (Outcome × List Holding)} {e e' : Int} (h : FoldIs d xs k ps e) (h' : FoldIs d xs k' ps' e') (j : Nat) (h1 : j < ps.length) (h2 : j < ps'.length) : OSame ps[j].1 ps'[j].1 ∧ ps[j].2 = ps'[j].2 := by
 have hle := h.le
 have hlen := h.len
 obtain ⟨a, b⟩ := h.out j h1 (by omega)
 obtain ⟨a', _⟩ := h'.out j h2 (by omega)
 exact a.same a' b
def feesN (ps : List (Outcome × List Holding)) : Nat := (ps.map fun x => x.1.fee).sum
theorem sum2_min (a b : Nat) : sumL [⟨a⟩, ⟨b⟩] = min (a + b) 18446744073709551615 := by
 unfold sumL
 simp only [List.foldl_cons, List.foldl_nil]
 unfold sumH
 split <;> split <;> omega
theorem feeL_min (ps : List (Outcome × List Holding)) : feeL ps = min (feesN ps) 18446744073709551615 := by
 have h : ∀ (l : List (Outcome × List Holding)) (a : Nat), a ≤ 18446744073709551615 → l.foldl (fun a x => sumL [⟨a⟩, ⟨x.1.fee⟩]) a = min (a + feesN l) 18446744073709551615 := by
  intro l
  induction l with
  | nil => intro a h; show a = min (a + 0) _; omega
  | cons x r ih =>
   intro a h
   rw [List.foldl_cons, ih _ (by rw [sum2_min]; omega), sum2_min]
   have : feesN (x :: r) = x.1.fee + feesN r := by unfold feesN; rw [List.map_cons, List.sum_cons]
   omega
 have := h ps 0 (by decide)
 rw [Nat.zero_add] at this
 exact this
theorem feesN_app (ps qs : List (Outcome × List Holding)) : feesN (ps ++ qs) = feesN ps + feesN qs := by
 unfold feesN; rw [List.map_append, List.sum_append]
theorem fees_same {ps ps' : List (Outcome × List Holding)} (hl : ps.length = ps'.length) (h : ∀ j (h1 : j < ps.length) (h2 : j < ps'.length), OSame ps[j].1 ps'[j].1 ∧ ps[j].2 = ps'[j].2) : feeL ps = feeL ps' := by
 rw [feeL_min, feeL_min]
 have : ps.map (fun x => x.1.fee) = ps'.map (fun x => x.1.fee) := by
  refine List.ext_getElem (by simp [hl]) fun j h1 h2 => ?_
  rw [List.getElem_map, List.getElem_map]
  exact (h j (by simpa using h1) (by simpa using h2)).1.h4
 unfold feesN
 rw [this]
theorem fee_joined (ps qs : List (Outcome × List Holding)) : (if (feeL ps + feeL qs) % 18446744073709551616 < feeL ps then 18446744073709551615 else (feeL ps + feeL qs) % 18446744073709551616) = feeL (ps ++ qs) := by
 rw [feeL_min, feeL_min, feeL_min, feesN_app]
 split <;> omega
theorem St.och {w0 w : World} {S : List Ent} {ps : List (Outcome × List Holding)} (h : St w0 S w) (he : Has (ochE ps) S) {j : Nat} (hj : j < ps.length) : SlR w ps[j].1.changed.v ps[j].2 := by
 have h1 := h.get he
 unfold ochE at h1
 rw [starE_A] at h1
 have h2 := h1.2 (ownE ps[j].1.changed.v 66 ps[j].2) (List.mem_map.2 ⟨ps[j], List.getElem_mem hj, rfl⟩)
 rw [ownE_A] at h2
 exact OwnB.sl h2
theorem txs_of {w : World} : ∀ {Rs : List Ready}, (∀ R ∈ Rs, R.okz w) → ∃ xs : List TX, xs.map TX.R = Rs ∧ ∀ x ∈ xs, SlR w x.R.roles.v x.r ∧ (x.r.length ≤ 100000 → TXOk w x)
 | [], _ => ⟨[], rfl, fun x h => by cases h⟩
 | R :: Rs, h => by
  obtain ⟨xs, h1, h2⟩ := txs_of (Rs := Rs) (fun R hR => h R (List.mem_cons_of_mem _ hR))
  obtain ⟨x, h3, h4, h5⟩ := tx_of (h R List.mem_cons_self)
  refine ⟨x :: xs, by rw [List.map_cons, h1, h3], fun y hy => ?_⟩
  rcases List.mem_cons.1 hy with rfl | hy
  ·exact ⟨h4, h5⟩
  ·exact h2 y hy

theorem same_len {α : Type} {xs ys : List α} (h : xs ≠ ys ∨ True) : True := trivial
theorem take_all_eq {α : Type} {xs ys : List α} {k : Nat} (hl : xs.length = ys.length) (h : xs.take k = ys.take k) (hk : xs.length ≤ k) : xs = ys := by
 rw [List.take_of_length_le hk, List.take_of_length_le (by omega)] at h; exact h
theorem take_succ_eq {α : Type} {xs ys : List α} {k : Nat} (h : xs.take k = ys.take k) (h1 : k < xs.length) (h2 : k < ys.length) (he : xs[k] = ys[k]) : xs.take (k + 1) = ys.take (k + 1) := by
 rw [List.take_succ_eq_append_getElem h1, List.take_succ_eq_append_getElem h2, h, he]
theorem get_ne {α : Type} {xs ys : List α} {k : Nat} (h1 : k < xs.length) (h2 : k < ys.length) (he : xs[k] ≠ ys[k]) : xs ≠ ys := fun e => he (by subst e; rfl)

theorem same_h (w0 : World) (v u : Value) (xs ys : List Holding) (hx : SlR w0 v xs) (hy : SlR w0 u ys) : Ret Tryd.prog 49 #[v, u] w0 (fun r w' => r = .bool (decide (xs = ys)) ∧ Bel w0 w') := by
 refine Ret.enter (args := [v, u]) Tryd.func49 rfl Tryd.ntmps49 Tryd.results49 rfl ?_
 have hS := St.start w0
 refine WC.seq (fun K1 hK1 => ?_)
 refine WC.region ?_
 refine WL.op rfl (opW.assignB rfl ?_)
 refine WL.nil ?_
 refine thenQ_n (hK1 _ _ ?_)
 refine WC.seq (fun K2 hK2 => ?_)
 refine WC.seq (fun K3 hK3 => ?_)
 refine WC.region ?_
 refine WL.op rfl (opW.moveV (v := v) rfl ?_)
 refine WL.op rfl (opW.lenV rfl ((hx.bel hS.old)) ?_)
 refine WL.op rfl (opW.moveV (v := u) rfl ?_)
 refine WL.op rfl (opW.lenV rfl ((hy.bel hS.old)) ?_)
 refine WL.op rfl (opW.neq rfl rfl ?_)
 refine WL.nil ?_
 refine thenQ_n (hK3 _ _ ?_)
 refine WC.cond _ rfl (fun hc0 => ?_) (fun hc0 => ?_)
 ·
  have hr0 := hc0
  try simp only [sq1,sq2,sq3,sq4,sq5,sq6,sq7,sq8,sq9,sq0] at hc0
  refine WC.seq (fun K4 hK4 => ?_)
  refine WC.region ?_
  refine WL.op rfl (opW.assignB rfl ?_)
  refine WL.nil ?_
  refine thenQ_n (hK4 _ _ ?_)
  refine WC.ret ?_
  refine thenQ_r ?_
  refine bodyQ_ret (.tmpB rfl .nil) ?_
  refine ⟨?_, hS.old⟩
  rw [decide_eq_false (fun e => hc0 (by rw [e]))]
  rfl
 ·
  have hr0 := hc0
  try simp only [sq1,sq2,sq3,sq4,sq5,sq6,sq7,sq8,sq9,sq0] at hc0
  have hlen : xs.length = ys.length := by omega
  refine WC.skip ?_
  refine thenQ_n (hK2 _ _ ?_)
  refine WC.seq (fun K5 hK5 => ?_)
  refine WC.seq (fun K6 hK6 => ?_)
  refine WC.region ?_
  refine WL.op rfl (opW.assignI rfl ?_)
  refine WL.nil ?_
  refine thenQ_n (hK6 _ _ ?_)
  refine WC.block ?_
  refine WC.loop (fun m f w => ∃ k : Nat, Fits [(0, v), (1, u), (5, .int .i64 (k : Int))] f ∧ St w0 [] w ∧ xs.take k = ys.take k ∧ m = xs.length - k) (xs.length) ?_ ?_
  ·
   exact ⟨0, ⟨rfl, rfl, rfl, trivial⟩, hS, rfl, rfl⟩
  ·
   rintro m f w ⟨k, hfit, hS, ht, hm⟩
   refine WC.fits _ hfit (fun g => ?_)
   clear hfit
   refine WC.seq (fun K7 hK7 => ?_)
   refine WC.seq (fun K8 hK8 => ?_)
   refine WC.region ?_
   refine WL.op rfl (opW.moveI rfl ?_)
   refine WL.op rfl (opW.moveV (v := v) rfl ?_)
   refine WL.op rfl (opW.lenV rfl ((hx.bel hS.old)) ?_)
   refine WL.op rfl (opW.lss rfl rfl ?_)
   refine WL.nil ?_
   refine thenQ_n (hK8 _ _ ?_)
   refine WC.cond _ rfl (fun hc1 => ?_) (fun hc1 => ?_)
   ·
    have hr1 := hc1
    try simp only [sq1,sq2,sq3,sq4,sq5,sq6,sq7,sq8,sq9,sq0] at hc1
    have hk1 : k < xs.length := by omega
    have hk2 : k < ys.length := by omega
    have hle := hx.le
    simp only [maxLen] at hle
    refine WC.skip ?_
    refine thenQ_n (hK7 _ _ ?_)
    refine WC.seq (fun K9 hK9 => ?_)
    refine WC.block ?_
    refine WC.seq (fun K10 hK10 => ?_)
    refine WC.draw 9 (.look 0 (.look 1 (.look 2 (.look 3 (.look 4 (.look 5 (.look 6 (.look 7 (.look 8 .nil))))))))) (by kernel_rfl) (fun _ _ _ h => h) (fun w1 hw1 => ?_)
    replace hS := hS.bel hw1
    have hS1 := hS
    have hT := St.start w1
    refine ML.look rfl rfl rfl (fun w hw => (by have hS := hS1.bel hw; exact opW.moveV (v := v) rfl ⟨rfl, rfl⟩)) ?_
    refine ML.look rfl rfl rfl (fun w hw => (by have hS := hS1.bel hw; exact opW.moveI rfl ⟨rfl, rfl⟩)) ?_
    refine ML.look rfl rfl rfl (fun w hw => (by have hS := hS1.bel hw; exact opW.idxV rfl ((hx.bel hS.old)) rfl (by omega) ⟨rfl, rfl⟩)) ?_
    refine ML.look rfl rfl rfl (fun w hw => (by have hS := hS1.bel hw; exact opW.loadV rfl ((((hx.bel hS.old).isPt hk1).ldA (Enc.size_eq _))) ⟨rfl, rfl⟩)) ?_
    refine ML.look rfl rfl rfl (fun w hw => (by have hS := hS1.bel hw; exact opW.moveV (v := u) rfl ⟨rfl, rfl⟩)) ?_
    refine ML.look rfl rfl rfl (fun w hw => (by have hS := hS1.bel hw; exact opW.moveI rfl ⟨rfl, rfl⟩)) ?_
    refine ML.look rfl rfl rfl (fun w hw => (by have hS := hS1.bel hw; exact opW.idxV rfl ((hy.bel hS.old)) rfl (by omega) ⟨rfl, rfl⟩)) ?_
    refine ML.look rfl rfl rfl (fun w hw => (by have hS := hS1.bel hw; exact opW.loadV rfl ((((hy.bel hS.old).isPt hk2).ldA (Enc.size_eq _))) ⟨rfl, rfl⟩)) ?_
    refine ML.look rfl rfl rfl (fun w hw => (by have hS := hS1.bel hw; exact opW.neqE rfl rfl ⟨rfl, rfl⟩)) ?_
    refine ML.nil ?_
    refine thenQ_n (hK10 _ _ ?_)
    refine WC.cond _ rfl (fun hc2 => ?_) (fun hc2 => ?_)
    ·
     have hr2 := hc2
     try simp only [sq1,sq2,sq3,sq4,sq5,sq6,sq7,sq8,sq9,sq0] at hc2
     refine WC.seq (fun K11 hK11 => ?_)
     refine WC.region ?_
     refine WL.op rfl (opW.assignB rfl ?_)
     refine WL.nil ?_
     refine thenQ_n (hK11 _ _ ?_)
     refine WC.ret ?_
     refine blockQ_r ?_
     refine thenQ_r ?_
     refine thenQ_r ?_
     refine blockQ_r ?_
     refine thenQ_r ?_
     refine bodyQ_ret (.tmpB rfl .nil) ?_
     refine ⟨?_, hS.old⟩
     rw [decide_eq_false (get_ne hk1 hk2 (hc2))]
     rfl
    ·
     have hr2 := hc2
     try simp only [sq1,sq2,sq3,sq4,sq5,sq6,sq7,sq8,sq9,sq0] at hc2
     refine WC.skip ?_
     refine blockQ_n ?_
     refine thenQ_n (hK9 _ _ ?_)
     refine WC.region ?_
     refine WL.op rfl (opW.moveI rfl ?_)
     refine WL.op rfl (opW.add rfl rfl (wrap_i64 (by omega)) ?_)
     refine WL.op rfl (opW.assignI rfl ?_)
     refine WL.nil ?_
     refine thenQ_n ?_
     refine ⟨xs.length - (k + 1), by omega, k + 1, ⟨rfl, rfl, congrArg (Value.int .i64) (by omega), trivial⟩, hS, take_succ_eq ht hk1 hk2 (hc2), rfl⟩
   ·
    have hr1 := hc1
    try simp only [sq1,sq2,sq3,sq4,sq5,sq6,sq7,sq8,sq9,sq0] at hc1
    refine WC.exit ?_
    refine thenQ_e ?_
    refine thenQ_e ?_
    refine blockQ_hit ?_
    refine thenQ_n (hK5 _ _ ?_)
    refine WC.seq (fun K12 hK12 => ?_)
    refine WC.region ?_
    refine WL.op rfl (opW.assignB rfl ?_)
    refine WL.nil ?_
    refine thenQ_n (hK12 _ _ ?_)
    refine WC.ret ?_
    refine bodyQ_ret (.tmpB rfl .nil) ?_
    refine ⟨?_, hS.old⟩
    rw [decide_eq_true (take_all_eq hlen ht (by omega))]
    rfl

theorem sameOutcome_ok (w0 : World) (A B : Outcome) (ch : List Holding) (hA : SlR w0 A.changed.v ch) (hB : SlR w0 B.changed.v ch) (h1 : A.fail = B.fail) (h2 : A.at_ = B.at_) (h3 : A.units = B.units) (h4 : A.fee = B.fee) (h5 : A.space = B.space) : Ret Tryd.prog 31 #[.agg (Enc.enc A), .agg (Enc.enc B)] w0 (fun u w' => u = .bool true ∧ Bel w0 w') := by
 refine Ret.enter (args := [.agg (Enc.enc A), .agg (Enc.enc B)]) Tryd.func31 rfl Tryd.ntmps31 Tryd.results31 rfl ?_
 have hS := St.start w0
 refine WC.seq (fun K1 hK1 => ?_)
 refine WC.region ?_
 refine WL.op rfl (opW.boxA hS rfl ?_)
 intro b2 w _ hS
 refine WL.op rfl (opW.boxA hS rfl ?_)
 intro b3 w _ hS
 refine WL.op rfl (opW.assignB rfl ?_)
 refine WL.nil ?_
 refine thenQ_n (hK1 _ _ ?_)
 refine WC.seq (fun K2 hK2 => ?_)
 refine WC.region ?_
 refine WL.op rfl (opW.fieldAddrB rfl ?_)
 refine WL.op rfl (opW.loadV rfl (hS.ld1 (b := b2) (cs := Enc.enc A) (by repeat constructor) (Outcome.at_fail A)) ?_)
 refine WL.op rfl (opW.fieldAddrB rfl ?_)
 refine WL.op rfl (opW.loadV rfl (hS.ld1 (b := b3) (cs := Enc.enc B) (by repeat constructor) (Outcome.at_fail B)) ?_)
 refine WL.op rfl (opW.boolT (by rw [h1]; exact decide_eq_true rfl) (opW.eql rfl rfl ⟨rfl, rfl⟩) ?_)
 refine WL.op rfl (opW.moveB rfl ?_)
 refine WL.gT 10 rfl rfl rfl (WL.op rfl (opW.fieldAddrB rfl ?_))
 refine WL.gT 10 rfl rfl rfl (WL.op rfl (opW.loadV rfl (hS.ld1 (b := b2) (cs := Enc.enc A) (by repeat constructor) (Outcome.at_at_ A)) ?_))
 refine WL.gT 10 rfl rfl rfl (WL.op rfl (opW.fieldAddrB rfl ?_))
 refine WL.gT 10 rfl rfl rfl (WL.op rfl (opW.loadV rfl (hS.ld1 (b := b3) (cs := Enc.enc B) (by repeat constructor) (Outcome.at_at_ B)) ?_))
 refine WL.gT 10 rfl rfl rfl (WL.op rfl (opW.boolT (by rw [h2]; exact decide_eq_true rfl) (opW.eql rfl rfl ⟨rfl, rfl⟩) ?_))
 refine WL.op rfl (opW.pickT rfl rfl ?_)
 refine WL.op rfl (opW.moveB rfl ?_)
 refine WL.gT 17 rfl rfl rfl (WL.op rfl (opW.fieldAddrB rfl ?_))
 refine WL.gT 17 rfl rfl rfl (WL.op rfl (opW.loadV rfl (hS.ld1 (b := b2) (cs := Enc.enc A) (by repeat constructor) (Outcome.at_units A)) ?_))
 refine WL.gT 17 rfl rfl rfl (WL.op rfl (opW.fieldAddrB rfl ?_))
 refine WL.gT 17 rfl rfl rfl (WL.op rfl (opW.loadV rfl (hS.ld1 (b := b3) (cs := Enc.enc B) (by repeat constructor) (Outcome.at_units B)) ?_))
 refine WL.gT 17 rfl rfl rfl (WL.op rfl (opW.boolT (by rw [h3]; exact decide_eq_true rfl) (opW.eql rfl rfl ⟨rfl, rfl⟩) ?_))
 refine WL.op rfl (opW.pickT rfl rfl ?_)
 refine WL.op rfl (opW.moveB rfl ?_)
 refine WL.gT 24 rfl rfl rfl (WL.op rfl (opW.fieldAddrB rfl ?_))
 refine WL.gT 24 rfl rfl rfl (WL.op rfl (opW.loadV rfl (hS.ld1 (b := b2) (cs := Enc.enc A) (by repeat constructor) (Outcome.at_fee A)) ?_))
 refine WL.gT 24 rfl rfl rfl (WL.op rfl (opW.fieldAddrB rfl ?_))
 refine WL.gT 24 rfl rfl rfl (WL.op rfl (opW.loadV rfl (hS.ld1 (b := b3) (cs := Enc.enc B) (by repeat constructor) (Outcome.at_fee B)) ?_))
 refine WL.gT 24 rfl rfl rfl (WL.op rfl (opW.boolT (by rw [h4]; exact decide_eq_true rfl) (opW.eql rfl rfl ⟨rfl, rfl⟩) ?_))
 refine WL.op rfl (opW.pickT rfl rfl ?_)
 refine WL.op rfl (opW.moveB rfl ?_)
 refine WL.gT 31 rfl rfl rfl (WL.op rfl (opW.fieldAddrB rfl ?_))
 refine WL.gT 31 rfl rfl rfl (WL.op rfl (opW.loadV rfl (hS.ld1 (b := b2) (cs := Enc.enc A) (by repeat constructor) (Outcome.at_space A)) ?_))
 refine WL.gT 31 rfl rfl rfl (WL.op rfl (opW.fieldAddrB rfl ?_))
 refine WL.gT 31 rfl rfl rfl (WL.op rfl (opW.loadV rfl (hS.ld1 (b := b3) (cs := Enc.enc B) (by repeat constructor) (Outcome.at_space B)) ?_))
 refine WL.gT 31 rfl rfl rfl (WL.op rfl (opW.boolT (by rw [h5]; exact decide_eq_true rfl) (opW.eql rfl rfl ⟨rfl, rfl⟩) ?_))
 refine WL.op rfl (opW.pickT rfl rfl ?_)
 refine WL.op rfl (opW.moveB rfl ?_)
 refine WL.gT 38 rfl rfl rfl (WL.op rfl (opW.fieldAddrB rfl ?_))
 refine WL.gT 38 rfl rfl rfl (WL.op rfl (opW.loadV rfl (hS.ld1 (b := b2) (cs := Enc.enc A) (by repeat constructor) (Outcome.at_changed A)) ?_))
 refine WL.gT 38 rfl rfl rfl (WL.op rfl (opW.fieldAddrB rfl ?_))
 refine WL.gT 38 rfl rfl rfl (WL.op rfl (opW.loadV rfl (hS.ld1 (b := b3) (cs := Enc.enc B) (by repeat constructor) (Outcome.at_changed B)) ?_))
 refine WL.gT 38 rfl rfl rfl (WL.op rfl (opW.call (same_h _ _ _ ch ch (hA.bel hS.old) (hB.bel hS.old)) rfl ?_))
 rintro _ w ⟨rfl, hw⟩; replace hS := hS.bel hw
 rw [decide_eq_true (rfl : ch = ch)]
 refine WL.op rfl (opW.pickT rfl rfl ?_)
 refine WL.op rfl (opW.assignB rfl ?_)
 refine WL.nil ?_
 refine thenQ_n (hK2 _ _ ?_)
 refine WC.ret ?_
 refine bodyQ_ret (.tmpB rfl .nil) ?_
 exact ⟨rfl, hS.old⟩

theorem getD_one (n : Nat) : n = n := rfl

theorem sameOutcomes_ok (w0 : World) (va vb : Value) (As Bs : List Outcome) (ha : SlR w0 va As) (hb : SlR w0 vb Bs) (hal : As.length ≤ 100000) (hlen : As.length = Bs.length) (hsame : ∀ k (h1 : k < As.length) (h2 : k < Bs.length), ∃ ch : List Holding, SlR w0 As[k].changed.v ch ∧ SlR w0 Bs[k].changed.v ch ∧ OSame As[k] Bs[k]) : Ret Tryd.prog 11 #[va, vb] w0 (fun u w' => u = .bool true ∧ Bel w0 w') := by
 refine Ret.enter (args := [va, vb]) Tryd.func11 rfl Tryd.ntmps11 Tryd.results11 rfl ?_
 have hS := St.start w0
 refine WC.seq (fun K1 hK1 => ?_)
 refine WC.region ?_
 refine WL.op rfl (opW.assignB rfl ?_)
 refine WL.nil ?_
 refine thenQ_n (hK1 _ _ ?_)
 refine WC.seq (fun K2 hK2 => ?_)
 refine WC.seq (fun K3 hK3 => ?_)
 refine WC.region ?_
 refine WL.op rfl (opW.moveV (v := va) rfl ?_)
 refine WL.op rfl (opW.lenV rfl ((ha.bel hS.old)) ?_)
 refine WL.op rfl (opW.moveV (v := vb) rfl ?_)
 refine WL.op rfl (opW.lenV rfl ((hb.bel hS.old)) ?_)
 refine WL.op rfl (opW.neq rfl rfl ?_)
 refine WL.nil ?_
 refine thenQ_n (hK3 _ _ ?_)
 refine WC.cond _ rfl (fun hc0 => ?_) (fun hc0 => ?_)
 ·
  have hr0 := hc0
  try simp only [sq1,sq2,sq3,sq4,sq5,sq6,sq7,sq8,sq9,sq0] at hc0
  simp only [hlen] at hr0
  simp at hr0
 ·
  have hr0 := hc0
  try simp only [sq1,sq2,sq3,sq4,sq5,sq6,sq7,sq8,sq9,sq0] at hc0
  refine WC.skip ?_
  refine thenQ_n (hK2 _ _ ?_)
  refine WC.seq (fun K4 hK4 => ?_)
  refine WC.seq (fun K5 hK5 => ?_)
  refine WC.region ?_
  refine WL.op rfl (opW.assignI rfl ?_)
  refine WL.nil ?_
  refine thenQ_n (hK5 _ _ ?_)
  refine WC.block ?_
  refine WC.loop (fun m f w => ∃ k : Nat, Fits [(0, va), (1, vb), (5, .int .i64 (k : Int))] f ∧ St w0 [] w ∧ k ≤ As.length ∧ m = As.length - k) (As.length) ?_ ?_
  ·
   exact ⟨0, ⟨rfl, rfl, rfl, trivial⟩, hS, Nat.zero_le _, rfl⟩
  ·
   rintro m f w ⟨k, hfit, hS, hk0, hm⟩
   refine WC.fits _ hfit (fun g => ?_)
   clear hfit
   refine WC.seq (fun K6 hK6 => ?_)
   refine WC.seq (fun K7 hK7 => ?_)
   refine WC.region ?_
   refine WL.op rfl (opW.moveI rfl ?_)
   refine WL.op rfl (opW.moveV (v := va) rfl ?_)
   refine WL.op rfl (opW.lenV rfl ((ha.bel hS.old)) ?_)
   refine WL.op rfl (opW.lss rfl rfl ?_)
   refine WL.nil ?_
   refine thenQ_n (hK7 _ _ ?_)
   refine WC.cond _ rfl (fun hc1 => ?_) (fun hc1 => ?_)
   ·
    have hr1 := hc1
    try simp only [sq1,sq2,sq3,sq4,sq5,sq6,sq7,sq8,sq9,sq0] at hc1
    have hka : k < As.length := by omega
    have hkb : k < Bs.length := by omega
    obtain ⟨ch, hc1, hc2, hos⟩ := hsame k hka hkb
    refine WC.skip ?_
    refine thenQ_n (hK6 _ _ ?_)
    refine WC.seq (fun K8 hK8 => ?_)
    refine WC.block ?_
    refine WC.seq (fun K9 hK9 => ?_)
    refine WC.draw 10 (.look 0 (.look 1 (.look 2 (.look 3 (.look 4 (.look 5 (.look 6 (.look 7 (.one 8 (.look 9 .nil)))))))))) (by kernel_rfl) (fun _ _ _ h => h) (fun w1 hw1 => ?_)
    replace hS := hS.bel hw1
    have hS1 := hS
    have hT := St.start w1
    refine ML.look rfl rfl rfl (fun w hw => (by have hS := hS1.bel hw; exact opW.moveV (v := va) rfl ⟨rfl, rfl⟩)) ?_
    refine ML.look rfl rfl rfl (fun w hw => (by have hS := hS1.bel hw; exact opW.moveI rfl ⟨rfl, rfl⟩)) ?_
    refine ML.look rfl rfl rfl (fun w hw => (by have hS := hS1.bel hw; exact opW.idxV rfl ((ha.bel hS.old)) rfl (by omega) ⟨rfl, rfl⟩)) ?_
    refine ML.look rfl rfl rfl (fun w hw => (by have hS := hS1.bel hw; exact opW.loadV rfl (((ha.bel hS.old).isPt hka).ldA (Enc.size_eq As[k])) ⟨rfl, rfl⟩)) ?_
    refine ML.look rfl rfl rfl (fun w hw => (by have hS := hS1.bel hw; exact opW.moveV (v := vb) rfl ⟨rfl, rfl⟩)) ?_
    refine ML.look rfl rfl rfl (fun w hw => (by have hS := hS1.bel hw; exact opW.moveI rfl ⟨rfl, rfl⟩)) ?_
    refine ML.look rfl rfl rfl (fun w hw => (by have hS := hS1.bel hw; exact opW.idxV rfl ((hb.bel hS.old)) rfl (by omega) ⟨rfl, rfl⟩)) ?_
    refine ML.look rfl rfl rfl (fun w hw => (by have hS := hS1.bel hw; exact opW.loadV rfl (((hb.bel hS.old).isPt hkb).ldA (Enc.size_eq Bs[k])) ⟨rfl, rfl⟩)) ?_
    refine ML.one rfl rfl rfl (opW.call (sameOutcome_ok _ As[k] Bs[k] ch (hc1.bel hS.old) (hc2.bel hS.old) hos.h1 hos.h2 hos.h3 hos.h4 hos.h5) rfl ?_)
    rintro _ w ⟨rfl, hw⟩; replace hT := hT.bel hw
    refine ⟨hT.old, ?_⟩
    have hS := hS1.merge hT
    try simp only [List.cons_append, List.nil_append] at hS
    refine ML.look rfl rfl rfl (fun w hw => (by have hS := hS1.bel hw; exact opW.not rfl ⟨rfl, rfl⟩)) ?_
    refine ML.nil ?_
    refine thenQ_n (hK9 _ _ ?_)
    refine WC.cond _ rfl (fun hc2 => ?_) (fun hc2 => ?_)
    ·
     have hr2 := hc2
     try simp only [sq1,sq2,sq3,sq4,sq5,sq6,sq7,sq8,sq9,sq0] at hc2
     cases hr2
    ·
     have hr2 := hc2
     try simp only [sq1,sq2,sq3,sq4,sq5,sq6,sq7,sq8,sq9,sq0] at hc2
     refine WC.skip ?_
     refine blockQ_n ?_
     refine thenQ_n (hK8 _ _ ?_)
     refine WC.region ?_
     refine WL.op rfl (opW.moveI rfl ?_)
     refine WL.op rfl (opW.add rfl rfl (wrap_i64 (by omega)) ?_)
     refine WL.op rfl (opW.assignI rfl ?_)
     refine WL.nil ?_
     refine thenQ_n ?_
     exact ⟨As.length - (k + 1), by omega, k + 1, ⟨rfl, rfl, congrArg (Value.int .i64) (by omega), trivial⟩, hS.sub (by repeat with_reducible first | exact su1 _ | exact su2 _ | refine su3 ?_ | refine su4 ?_), by omega, rfl⟩
   ·
    have hr1 := hc1
    try simp only [sq1,sq2,sq3,sq4,sq5,sq6,sq7,sq8,sq9,sq0] at hc1
    refine WC.exit ?_
    refine thenQ_e ?_
    refine thenQ_e ?_
    refine blockQ_hit ?_
    refine thenQ_n (hK4 _ _ ?_)
    refine WC.seq (fun K10 hK10 => ?_)
    refine WC.region ?_
    refine WL.op rfl (opW.assignB rfl ?_)
    refine WL.nil ?_
    refine thenQ_n (hK10 _ _ ?_)
    refine WC.ret ?_
    refine bodyQ_ret (.tmpB rfl .nil) ?_
    exact ⟨rfl, hS.old⟩

end Go.Fer
