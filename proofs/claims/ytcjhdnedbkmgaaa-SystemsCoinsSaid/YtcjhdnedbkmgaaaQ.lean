/- SystemsCoins -/
import Derived.Test.YtcjhdnedbkmgaaaO
import Derived.Test.YtcjhdnedbkmgaaaP
set_option linter.all false
namespace Go.Fer
open Go Go.Proofs Go.RowKit

theorem act_okW {l : List Account} {r : List Role} {ats dt : List UInt8} {x : Ask} {a b : Nat} (h : DoOk l r ats dt x a b) (hl : ∀ y ∈ l, okW y) : ∀ y ∈ actL x l a b (l[a]'h.ha) (l[b]'h.hb), okW y := by
  obtain ⟨htag, hxc, hxs⟩ := askF_ok h.ask
  have hact := h.act
  have hA := hl _ (List.getElem_mem h.ha)
  have hB := hl _ (List.getElem_mem h.hb)
  intro y hy
  rcases htag with ht | ht | ht | ht
  · rw [actL0 ht] at hy
    rcases List.mem_or_eq_of_mem_set hy with hy | rfl
    · rcases List.mem_or_eq_of_mem_set hy with hy | rfl
      · exact hl y hy
      · exact ⟨by have := hA.1; simp only; omega, hA.2⟩
    · exact ⟨hxc, hxs⟩
  · rw [actL1 ht] at hy
    rcases List.mem_or_eq_of_mem_set hy with hy | rfl
    · exact hl y hy
    · exact hA
  · rw [actL2 ht] at hy
    rw [actE2 ht] at hact
    obtain ⟨_, _, _, h4⟩ := mvE_ok hact
    unfold mvL at hy
    split at hy
    · exact hl y hy
    · rename_i hab
      rcases List.mem_or_eq_of_mem_set hy with hy | rfl
      · rcases List.mem_or_eq_of_mem_set hy with hy | rfl
        · exact hl y hy
        · exact ⟨by have := hA.1; simp only; omega, hA.2⟩
      · exact ⟨by have := h4 (decide_eq_false hab); simp only; omega, hB.2⟩
  · rw [actL8 ht] at hy
    rcases List.mem_or_eq_of_mem_set hy with hy | rfl
    · exact hl y hy
    · exact ⟨hA.1, hxs⟩
theorem sumC_take {l : List Account} {k : Nat} (hk : k < l.length) : sumC (l.take (k + 1)) = sumC (l.take k) + l[k].coins := by
  rw [List.take_succ_eq_append_getElem hk]
  unfold sumC
  rw [List.map_append, List.sum_append]
  simp only [List.map_cons, List.map_nil, List.sum_cons, List.sum_nil, Nat.add_zero]
theorem sumC_le : ∀ {l : List Account}, (∀ y ∈ l, okW y) → sumC l ≤ l.length * 18446744073709551615
  | [], _ => by simp [sumC]
  | x :: l, h => by
    have ih := sumC_le (l := l) fun y hy => h y (List.mem_cons_of_mem _ hy)
    have := (h x List.mem_cons_self).1
    simp [sumC] at ih ⊢; omega
theorem hi_step {S c : Nat} (hc : c < 18446744073709551616) : (S + c) / 18446744073709551616 = if ((18446744073709551615 - c : Nat) : Int) < ((S % 18446744073709551616 : Nat) : Int) then S / 18446744073709551616 + 1 else S / 18446744073709551616 := by
  split <;> omega
def chB (out l : List Account) (k : Nat) : Bool := decide (out[k]? ≠ l[k]?)
theorem chB_of {out l : List Account} {k : Nat} (h1 : k < out.length) (h2 : k < l.length) : chB out l k = decide (out[k] ≠ l[k]) := by
  unfold chB; rw [List.getElem?_eq_getElem h1, List.getElem?_eq_getElem h2]; simp
theorem count_next {p : Nat → Bool} (k : Nat) : (List.range (k + 1)).countP p = (List.range k).countP p + if p k = true then 1 else 0 := by
  rw [List.range_succ, List.countP_append, List.countP_singleton]
theorem count_le (p : Nat → Bool) (k : Nat) : (List.range k).countP p ≤ k := by
  have := List.countP_le_length (p := p) (l := List.range k); simpa using this

theorem sum_ok (w0 : World) (v : Value) (l : List Account) (hx : SlR w0 v l) (hw : ∀ y ∈ l, okW y) (hb : l.length ≤ 100000) : Ret Try.prog 19 #[v] w0 (fun u w' => u = .tuple #[.int .u64 ((sumC l / 18446744073709551616 : Nat) : Int), .int .u64 ((sumC l % 18446744073709551616 : Nat) : Int)] ∧ Bel w0 w') := by
  refine Ret.enter (args := [v]) Try.func19 rfl Try.ntmps19 Try.results19 rfl ?_
  have hS := St.start w0
  refine WC.seq (fun K1 hK1 => ?_)
  refine WC.region ?_
  refine WL.op rfl (opW.assignI rfl ?_)
  refine WL.op rfl (opW.assignI rfl ?_)
  refine WL.nil ?_
  refine thenQ_n (hK1 _ _ ?_)
  refine WC.seq (fun K2 hK2 => ?_)
  refine WC.region ?_
  refine WL.op rfl (opW.assignI rfl ?_)
  refine WL.nil ?_
  refine thenQ_n (hK2 _ _ ?_)
  refine WC.seq (fun K3 hK3 => ?_)
  refine WC.region ?_
  refine WL.op rfl (opW.assignI rfl ?_)
  refine WL.nil ?_
  refine thenQ_n (hK3 _ _ ?_)
  refine WC.seq (fun K4 hK4 => ?_)
  refine WC.seq (fun K5 hK5 => ?_)
  refine WC.region ?_
  refine WL.op rfl (opW.assignI rfl ?_)
  refine WL.nil ?_
  refine thenQ_n (hK5 _ _ ?_)
  refine WC.block ?_
  refine WC.loop (fun q f w => ∃ k : Nat, Fits [(0, v), (4, .int .u64 (((sumC (l.take k)) / 18446744073709551616 : Nat) : Int)), (5, .int .u64 (((sumC (l.take k)) % 18446744073709551616 : Nat) : Int)), (6, .int .i64 (k : Int))] f ∧ St w0 [] w ∧ k ≤ l.length ∧ q = l.length - k) (l.length) ?_ ?_
  ·
    exact ⟨0, ⟨rfl, congrArg (fun n : Nat => Value.int .u64 (n : Int)) (by simp [sumC]), congrArg (fun n : Nat => Value.int .u64 (n : Int)) (by simp [sumC]), rfl, trivial⟩, hS, Nat.zero_le _, rfl⟩
  ·
    rintro q f w ⟨k, hfit, hS, hk0, hm⟩
    refine WC.fits _ hfit (fun g => ?_)
    clear hfit
    refine WC.seq (fun K6 hK6 => ?_)
    refine WC.seq (fun K7 hK7 => ?_)
    refine WC.region ?_
    refine WL.op rfl (opW.moveI rfl ?_)
    refine WL.op rfl (opW.moveV (v := v) rfl ?_)
    refine WL.op rfl (opW.lenV rfl ((hx.bel hS.old)) ?_)
    refine WL.op rfl (opW.lss rfl rfl ?_)
    refine WL.nil ?_
    refine thenQ_n (hK7 _ _ ?_)
    refine WC.cond _ rfl (fun hc0 => ?_) (fun hc0 => ?_)
    ·
      have hr0 := hc0
      try simp only [decide_eq_true_eq, decide_eq_false_iff_not, Bool.and_eq_true, Bool.or_eq_true, Bool.and_eq_false_iff, Bool.or_eq_false_iff, Bool.not_eq_true', Bool.not_eq_false', Int.not_lt, Int.not_le] at hc0
      have hkl : k < l.length := by omega
      have hck := (hw _ (List.getElem_mem hkl)).1
      have hst := hi_step (S := (sumC (l.take k))) hck
      have hsl := sumC_le (l := l.take k) fun y hy => hw y (List.mem_of_mem_take hy)
      have htl : (l.take k).length ≤ k := by simp; omega
      have hl0 : ((sumC (l.take k)) % 18446744073709551616 + l[k].coins) % 18446744073709551616 = ((sumC (l.take k)) + l[k].coins) % 18446744073709551616 := by omega
      refine WC.skip ?_
      refine thenQ_n (hK6 _ _ ?_)
      refine WC.seq (fun K8 hK8 => ?_)
      refine WC.block ?_
      refine WC.mid (fun f w =>  Fits [(0, v), (4, .int .u64 ((((sumC (l.take k)) + l[k].coins) / 18446744073709551616 : Nat) : Int)), (5, .int .u64 (((sumC (l.take k)) % 18446744073709551616 : Nat) : Int)), (6, .int .i64 (k : Int))] f ∧ St w0 [] w) ?_ ?_
      ·
        refine WC.seq (fun K9 hK9 => ?_)
        refine WC.region ?_
        refine WL.op rfl (opW.moveI rfl ?_)
        refine WL.op rfl (opW.moveV (v := v) rfl ?_)
        refine WL.op rfl (opW.moveI rfl ?_)
        refine WL.op rfl (opW.idxV rfl ((hx.bel hS.old)) rfl (by omega) ?_)
        refine WL.op rfl (opW.fieldAddr rfl ((hx.bel hS.old).isP hkl) ?_)
        refine WL.op rfl (opW.loadV rfl (Ld.pt1 ((hx.bel hS.old).isPt hkl) 0 (Account.at_coins _)) ?_)
        refine WL.op rfl (opW.sub rfl rfl (sub_max _ hck) ?_)
        refine WL.op rfl (opW.gtr rfl rfl ?_)
        refine WL.nil ?_
        refine thenQ_n (hK9 _ _ ?_)
        refine WC.cond _ rfl (fun hc1 => ?_) (fun hc1 => ?_)
        ·
          have hr1 := hc1
          try simp only [decide_eq_true_eq, decide_eq_false_iff_not, Bool.and_eq_true, Bool.or_eq_true, Bool.and_eq_false_iff, Bool.or_eq_false_iff, Bool.not_eq_true', Bool.not_eq_false', Int.not_lt, Int.not_le] at hc1
          refine WC.region ?_
          refine WL.op rfl (opW.moveI rfl ?_)
          refine WL.op rfl (opW.add rfl rfl (wrap_u64 (by have : (sumC (l.take k)) / 18446744073709551616 ≤ k := (by have := Nat.mul_le_mul_right 18446744073709551615 htl; omega); omega)) ?_)
          refine WL.op rfl (opW.assignI rfl ?_)
          refine WL.nil ?_
          refine thenQ_n ?_
          first | exact ⟨⟨rfl, congrArg (Value.int .u64) (by rw [hst, if_pos (of_decide_eq_true hr1)]; omega), rfl, rfl, trivial⟩, hS⟩ | exact ⟨⟨rfl, congrArg (fun n : Nat => Value.int .u64 (n : Int)) (by rw [hst, if_neg (of_decide_eq_false hr1)]), rfl, rfl, trivial⟩, hS⟩
        ·
          have hr1 := hc1
          try simp only [decide_eq_true_eq, decide_eq_false_iff_not, Bool.and_eq_true, Bool.or_eq_true, Bool.and_eq_false_iff, Bool.or_eq_false_iff, Bool.not_eq_true', Bool.not_eq_false', Int.not_lt, Int.not_le] at hc1
          refine WC.skip ?_
          refine thenQ_n ?_
          first | exact ⟨⟨rfl, congrArg (Value.int .u64) (by rw [hst, if_pos (of_decide_eq_true hr1)]; omega), rfl, rfl, trivial⟩, hS⟩ | exact ⟨⟨rfl, congrArg (fun n : Nat => Value.int .u64 (n : Int)) (by rw [hst, if_neg (of_decide_eq_false hr1)]), rfl, rfl, trivial⟩, hS⟩
      ·
        rintro f w ⟨hfit, hS⟩
        refine WC.fits _ hfit (fun g => ?_)
        clear hfit
        refine WC.region ?_
        refine WL.op rfl (opW.moveI rfl ?_)
        refine WL.op rfl (opW.moveV (v := v) rfl ?_)
        refine WL.op rfl (opW.moveI rfl ?_)
        refine WL.op rfl (opW.idxV rfl ((hx.bel hS.old)) rfl (by omega) ?_)
        refine WL.op rfl (opW.fieldAddr rfl ((hx.bel hS.old).isP hkl) ?_)
        refine WL.op rfl (opW.loadV rfl (Ld.pt1 ((hx.bel hS.old).isPt hkl) 0 (Account.at_coins _)) ?_)
        refine WL.op rfl (opW.add rfl rfl (wrap_u64_add _ _) ?_)
        refine WL.op rfl (opW.assignI rfl ?_)
        refine WL.nil ?_
        refine blockQ_n ?_
        refine thenQ_n (hK8 _ _ ?_)
        refine WC.region ?_
        refine WL.op rfl (opW.moveI rfl ?_)
        refine WL.op rfl (opW.add rfl rfl (wrap_i64 (by omega)) ?_)
        refine WL.op rfl (opW.assignI rfl ?_)
        refine WL.nil ?_
        refine thenQ_n ?_
        exact ⟨l.length - (k + 1), by omega, k + 1, ⟨rfl, congrArg (fun n : Nat => Value.int .u64 (n : Int)) (by rw [sumC_take hkl]), congrArg (fun n : Nat => Value.int .u64 (n : Int)) (by rw [sumC_take hkl, hl0]), congrArg (Value.int .i64) (by omega), trivial⟩, hS, by omega, rfl⟩
    ·
      have hr0 := hc0
      try simp only [decide_eq_true_eq, decide_eq_false_iff_not, Bool.and_eq_true, Bool.or_eq_true, Bool.and_eq_false_iff, Bool.or_eq_false_iff, Bool.not_eq_true', Bool.not_eq_false', Int.not_lt, Int.not_le] at hc0
      refine WC.exit ?_
      refine thenQ_e ?_
      refine thenQ_e ?_
      refine blockQ_hit ?_
      refine thenQ_n (hK4 _ _ ?_)
      refine WC.seq (fun K10 hK10 => ?_)
      refine WC.region ?_
      refine WL.op rfl (opW.moveI rfl ?_)
      refine WL.op rfl (opW.moveI rfl ?_)
      refine WL.op rfl (opW.assignI rfl ?_)
      refine WL.op rfl (opW.assignI rfl ?_)
      refine WL.nil ?_
      refine thenQ_n (hK10 _ _ ?_)
      refine WC.ret ?_
      refine bodyQ_ret (.tmpI rfl (.tmpI rfl .nil)) ?_
      obtain rfl : k = l.length := by omega
      rw [List.take_length]
      exact ⟨rfl, hS.old⟩

set_option maxHeartbeats 2000000 in
theorem coins_law (w0 : World) (q : LAsk) (hq : q.ok w0) : Ret Try.prog 4 #[.agg (Enc.enc q)] w0 (fun r w' => r = .bool true ∧ Bel w0 w') := by
  refine Ret.enter (args := [.agg (Enc.enc q)]) Try.func4 rfl Try.ntmps4 Try.results4 rfl ?_
  have hS := St.start w0
  obtain ⟨l, r, ats, dt, hl, hr, ha, hd, hlw⟩ := LAsk.opened hq
  refine WC.seq (fun K1 hK1 => ?_)
  refine WC.region ?_
  refine WL.op rfl (opW.boxA hS rfl ?_)
  intro b1 w _ hS
  refine WL.op rfl (opW.assignB rfl ?_)
  refine WL.nil ?_
  refine thenQ_n (hK1 _ _ ?_)
  refine WC.seq (fun K2 hK2 => ?_)
  refine WC.seq (fun K3 hK3 => ?_)
  refine WC.region ?_
  refine WL.op rfl (opW.loadV rfl (hS.ldA (cs := Enc.enc q) (by first | exact .here | exact .there (.here) | exact .there (.there (.here)) | exact .there (.there (.there (.here))) | exact .there (.there (.there (.there (.here)))) | exact .there (.there (.there (.there (.there (.here))))) | exact .there (.there (.there (.there (.there (.there (.here)))))) | exact .there (.there (.there (.there (.there (.there (.there (.here))))))) | exact .there (.there (.there (.there (.there (.there (.there (.there (.here)))))))) | exact .there (.there (.there (.there (.there (.there (.there (.there (.there (.here))))))))) | exact .there (.there (.there (.there (.there (.there (.there (.there (.there (.there (.here)))))))))) | exact .there (.there (.there (.there (.there (.there (.there (.there (.there (.there (.there (.here))))))))))) | exact .there (.there (.there (.there (.there (.there (.there (.there (.there (.there (.there (.there (.here))))))))))))) (Enc.size_eq _)) ?_)
  refine WL.op rfl (opW.call (great14 _ q l r ats dt (hl.bel hS.old) (hr.bel hS.old) (ha.bel hS.old) (hd.bel hS.old)) rfl ?_)
  rintro _ w ⟨gb, rfl, hgb, hw⟩; replace hS := hS.bel hw
  refine WL.nil ?_
  refine thenQ_n (hK3 _ _ ?_)
  refine WC.cond _ rfl (fun hc0 => ?_) (fun hc0 => ?_)
  ·
    have hr0 := hc0
    try simp only [decide_eq_true_eq, decide_eq_false_iff_not, Bool.and_eq_true, Bool.or_eq_true, Bool.and_eq_false_iff, Bool.or_eq_false_iff, Bool.not_eq_true', Bool.not_eq_false', Int.not_lt, Int.not_le] at hc0
    refine WC.seq (fun K4 hK4 => ?_)
    refine WC.region ?_
    refine WL.op rfl (opW.call (lives14 _) rfl ?_)
    rintro _ w ⟨rfl, hw⟩; replace hS := hS.bel hw
    refine WL.op rfl (opW.assignB rfl ?_)
    refine WL.nil ?_
    refine thenQ_n (hK4 _ _ ?_)
    refine WC.ret ?_
    refine thenQ_r ?_
    refine bodyQ_ret (.tmpB rfl .nil) ?_
    exact ⟨rfl, hS.old⟩
  ·
    have hr0 := hc0
    try simp only [decide_eq_true_eq, decide_eq_false_iff_not, Bool.and_eq_true, Bool.or_eq_true, Bool.and_eq_false_iff, Bool.or_eq_false_iff, Bool.not_eq_true', Bool.not_eq_false', Int.not_lt, Int.not_le] at hc0
    obtain ⟨hb1, hb2, hb3, hb4⟩ := hgb hr0
    refine WC.skip ?_
    refine thenQ_n (hK2 _ _ ?_)
    refine WC.seq (fun K5 hK5 => ?_)
    refine WC.region ?_
    refine WL.op rfl (opW.fieldAddrB rfl ?_)
    refine WL.op rfl (opW.loadV rfl (hS.ld1 (by first | exact .here | exact .there (.here) | exact .there (.there (.here)) | exact .there (.there (.there (.here))) | exact .there (.there (.there (.there (.here)))) | exact .there (.there (.there (.there (.there (.here))))) | exact .there (.there (.there (.there (.there (.there (.here)))))) | exact .there (.there (.there (.there (.there (.there (.there (.here))))))) | exact .there (.there (.there (.there (.there (.there (.there (.there (.here)))))))) | exact .there (.there (.there (.there (.there (.there (.there (.there (.there (.here))))))))) | exact .there (.there (.there (.there (.there (.there (.there (.there (.there (.there (.here)))))))))) | exact .there (.there (.there (.there (.there (.there (.there (.there (.there (.there (.there (.here))))))))))) | exact .there (.there (.there (.there (.there (.there (.there (.there (.there (.there (.there (.there (.here))))))))))))) (LAsk.at_l q)) ?_)
    refine WL.op rfl (opW.fieldAddrB rfl ?_)
    refine WL.op rfl (opW.loadV rfl (hS.ld1 (by first | exact .here | exact .there (.here) | exact .there (.there (.here)) | exact .there (.there (.there (.here))) | exact .there (.there (.there (.there (.here)))) | exact .there (.there (.there (.there (.there (.here))))) | exact .there (.there (.there (.there (.there (.there (.here)))))) | exact .there (.there (.there (.there (.there (.there (.there (.here))))))) | exact .there (.there (.there (.there (.there (.there (.there (.there (.here)))))))) | exact .there (.there (.there (.there (.there (.there (.there (.there (.there (.here))))))))) | exact .there (.there (.there (.there (.there (.there (.there (.there (.there (.there (.here)))))))))) | exact .there (.there (.there (.there (.there (.there (.there (.there (.there (.there (.there (.here))))))))))) | exact .there (.there (.there (.there (.there (.there (.there (.there (.there (.there (.there (.there (.here))))))))))))) (LAsk.at_r q)) ?_)
    refine WL.op rfl (opW.fieldAddrB rfl ?_)
    refine WL.op rfl (opW.loadV rfl (hS.ldF (cs := Enc.enc q) (o := 2) (by first | exact .here | exact .there (.here) | exact .there (.there (.here)) | exact .there (.there (.there (.here))) | exact .there (.there (.there (.there (.here)))) | exact .there (.there (.there (.there (.there (.here))))) | exact .there (.there (.there (.there (.there (.there (.here)))))) | exact .there (.there (.there (.there (.there (.there (.there (.here))))))) | exact .there (.there (.there (.there (.there (.there (.there (.there (.here)))))))) | exact .there (.there (.there (.there (.there (.there (.there (.there (.there (.here))))))))) | exact .there (.there (.there (.there (.there (.there (.there (.there (.there (.there (.here)))))))))) | exact .there (.there (.there (.there (.there (.there (.there (.there (.there (.there (.there (.here))))))))))) | exact .there (.there (.there (.there (.there (.there (.there (.there (.there (.there (.there (.there (.here))))))))))))) (LAsk.ex_in_ q) (by rw [Enc.size_eq]; decide)) ?_)
    refine WL.op rfl (opW.call (do_ok _ _ _ q.in_ l r ats dt (hl.bel hS.old) (hr.bel hS.old) (ha.bel hS.old) (hd.bel hS.old) (by omega) hlw) rfl ?_)
    rintro _ w ⟨v23, rfl, hn23, hw⟩
    replace hS := hS.newOwn hw hn23.1 hn23.2
    refine WL.op rfl (opW.moveV (v := .tuple #[v23, .int .u64 ((doF l r ats dt).2.1 : Int), .int .i64 (doF l r ats dt).1]) rfl ?_)
    refine WL.op rfl (opW.extract rfl rfl ?_)
    refine WL.op rfl (opW.extract rfl rfl ?_)
    refine WL.op rfl (opW.extract rfl rfl ?_)
    refine WL.op rfl (opW.assignV (v := v23) rfl ?_)
    refine WL.op rfl (opW.assignI rfl ?_)
    refine WL.op rfl (opW.assignI rfl ?_)
    refine WL.nil ?_
    refine thenQ_n (hK5 _ _ ?_)
    refine WC.seq (fun K6 hK6 => ?_)
    refine WC.seq (fun K7 hK7 => ?_)
    refine WC.region ?_
    refine WL.op rfl (opW.moveI rfl ?_)
    refine WL.op rfl (opW.neq rfl rfl ?_)
    refine WL.nil ?_
    refine thenQ_n (hK7 _ _ ?_)
    refine WC.cond _ rfl (fun hc1 => ?_) (fun hc1 => ?_)
    ·
      have hr1 := hc1
      try simp only [decide_eq_true_eq, decide_eq_false_iff_not, Bool.and_eq_true, Bool.or_eq_true, Bool.and_eq_false_iff, Bool.or_eq_false_iff, Bool.not_eq_true', Bool.not_eq_false', Int.not_lt, Int.not_le] at hc1
      have he : (doF l r ats dt).1 ≠ 0 := by simpa using hr1
      have herr := doF_err he
      refine WC.seq (fun K8 hK8 => ?_)
      refine WC.region ?_
      refine WL.op rfl (opW.moveV (v := v23) rfl ?_)
      refine WL.op rfl (opW.lenV rfl (hS.sl (v := v23) (xs := (doF l r ats dt).2.2) (by first | exact .here | exact .there (.here) | exact .there (.there (.here)) | exact .there (.there (.there (.here))) | exact .there (.there (.there (.there (.here)))) | exact .there (.there (.there (.there (.there (.here))))) | exact .there (.there (.there (.there (.there (.there (.here)))))) | exact .there (.there (.there (.there (.there (.there (.there (.here))))))) | exact .there (.there (.there (.there (.there (.there (.there (.there (.here)))))))) | exact .there (.there (.there (.there (.there (.there (.there (.there (.there (.here))))))))) | exact .there (.there (.there (.there (.there (.there (.there (.there (.there (.there (.here)))))))))) | exact .there (.there (.there (.there (.there (.there (.there (.there (.there (.there (.there (.here))))))))))) | exact .there (.there (.there (.there (.there (.there (.there (.there (.there (.there (.there (.there (.here)))))))))))))) ?_)
      refine WL.op rfl (opW.boolT (by rw [herr]; rfl) (opW.eql rfl rfl ⟨rfl, rfl⟩) ?_)
      refine WL.op rfl (opW.moveB rfl ?_)
      refine WL.gT 32 rfl rfl rfl (WL.op rfl (opW.moveI rfl ?_))
      refine WL.gT 32 rfl rfl rfl (WL.op rfl (opW.boolT (by rw [herr]; rfl) (opW.eql rfl rfl ⟨rfl, rfl⟩) ?_))
      refine WL.op rfl (opW.pickT rfl rfl ?_)
      refine WL.op rfl (opW.moveB rfl ?_)
      refine WL.gT 36 rfl rfl rfl (WL.op rfl (opW.call (lives14 _) rfl ?_))
      rintro _ w ⟨rfl, hw⟩; replace hS := hS.bel hw
      refine WL.op rfl (opW.pickT rfl rfl ?_)
      refine WL.op rfl (opW.assignB rfl ?_)
      refine WL.nil ?_
      refine thenQ_n (hK8 _ _ ?_)
      refine WC.ret ?_
      refine thenQ_r ?_
      refine bodyQ_ret (.tmpB rfl .nil) ?_
      exact ⟨rfl, hS.old⟩
    ·
      have hr1 := hc1
      try simp only [decide_eq_true_eq, decide_eq_false_iff_not, Bool.and_eq_true, Bool.or_eq_true, Bool.and_eq_false_iff, Bool.or_eq_false_iff, Bool.not_eq_true', Bool.not_eq_false', Int.not_lt, Int.not_le] at hc1
      have he : (doF l r ats dt).1 = 0 := by simpa using hr1
      obtain ⟨x, a, b, hok⟩ := doF_ok he
      have hco := coins_ok hok
      have hwo := act_okW hok hlw
      have hres := hok.res
      generalize actL x l a b _ _ = out at hco hres hwo
      have e2 : (doF l r ats dt).2.1 = x.space := by rw [hres]
      have e3 : (doF l r ats dt).2.2 = out := by rw [hres]
      rw [e3] at hS
      rw [e2]
      have hol := hco.len
      have hlr := hok.len
      have hsm := hco.sum
      have hn1 := hco.n_le
      refine WC.skip ?_
      refine thenQ_n (hK6 _ _ ?_)
      refine WC.seq (fun K9 hK9 => ?_)
      refine WC.region ?_
      refine WL.op rfl (opW.fieldAddrB rfl ?_)
      refine WL.op rfl (opW.loadV rfl (hS.ld1 (by first | exact .here | exact .there (.here) | exact .there (.there (.here)) | exact .there (.there (.there (.here))) | exact .there (.there (.there (.there (.here)))) | exact .there (.there (.there (.there (.there (.here))))) | exact .there (.there (.there (.there (.there (.there (.here)))))) | exact .there (.there (.there (.there (.there (.there (.there (.here))))))) | exact .there (.there (.there (.there (.there (.there (.there (.there (.here)))))))) | exact .there (.there (.there (.there (.there (.there (.there (.there (.there (.here))))))))) | exact .there (.there (.there (.there (.there (.there (.there (.there (.there (.there (.here)))))))))) | exact .there (.there (.there (.there (.there (.there (.there (.there (.there (.there (.there (.here))))))))))) | exact .there (.there (.there (.there (.there (.there (.there (.there (.there (.there (.there (.there (.here))))))))))))) (LAsk.at_l q)) ?_)
      refine WL.op rfl (opW.call (sum_ok _ _ l (hl.bel hS.old) hlw (by omega)) rfl ?_)
      rintro _ w ⟨rfl, hw⟩; replace hS := hS.bel hw
      refine WL.op rfl (opW.moveV (v := .tuple #[.int .u64 ((sumC l / 18446744073709551616 : Nat) : Int), .int .u64 ((sumC l % 18446744073709551616 : Nat) : Int)]) rfl ?_)
      refine WL.op rfl (opW.extract rfl rfl ?_)
      refine WL.op rfl (opW.extract rfl rfl ?_)
      refine WL.op rfl (opW.assignI rfl ?_)
      refine WL.op rfl (opW.assignI rfl ?_)
      refine WL.nil ?_
      refine thenQ_n (hK9 _ _ ?_)
      refine WC.seq (fun K10 hK10 => ?_)
      refine WC.region ?_
      refine WL.op rfl (opW.moveV (v := v23) rfl ?_)
      refine WL.op rfl (opW.call (sum_ok _ _ out (hS.sl (v := v23) (xs := out) (by first | exact .here | exact .there (.here) | exact .there (.there (.here)) | exact .there (.there (.there (.here))) | exact .there (.there (.there (.there (.here)))) | exact .there (.there (.there (.there (.there (.here))))) | exact .there (.there (.there (.there (.there (.there (.here)))))) | exact .there (.there (.there (.there (.there (.there (.there (.here))))))) | exact .there (.there (.there (.there (.there (.there (.there (.there (.here)))))))) | exact .there (.there (.there (.there (.there (.there (.there (.there (.there (.here))))))))) | exact .there (.there (.there (.there (.there (.there (.there (.there (.there (.there (.here)))))))))) | exact .there (.there (.there (.there (.there (.there (.there (.there (.there (.there (.there (.here))))))))))) | exact .there (.there (.there (.there (.there (.there (.there (.there (.there (.there (.there (.there (.here)))))))))))))) hwo (by omega)) rfl ?_)
      rintro _ w ⟨rfl, hw⟩; replace hS := hS.bel hw
      refine WL.op rfl (opW.moveV (v := .tuple #[.int .u64 ((sumC out / 18446744073709551616 : Nat) : Int), .int .u64 ((sumC out % 18446744073709551616 : Nat) : Int)]) rfl ?_)
      refine WL.op rfl (opW.extract rfl rfl ?_)
      refine WL.op rfl (opW.extract rfl rfl ?_)
      refine WL.op rfl (opW.assignI rfl ?_)
      refine WL.op rfl (opW.assignI rfl ?_)
      refine WL.nil ?_
      refine thenQ_n (hK10 _ _ ?_)
      refine WC.seq (fun K11 hK11 => ?_)
      refine WC.seq (fun K12 hK12 => ?_)
      refine WC.region ?_
      refine WL.op rfl (opW.moveI rfl ?_)
      refine WL.op rfl (opW.moveI rfl ?_)
      refine WL.op rfl (opW.boolF (by rw [hsm]; simp) (opW.neq rfl rfl ⟨rfl, rfl⟩) ?_)
      refine WL.op rfl (opW.moveB rfl ?_)
      refine WL.gT 53 rfl rfl rfl (WL.op rfl (opW.moveI rfl ?_))
      refine WL.gT 53 rfl rfl rfl (WL.op rfl (opW.moveI rfl ?_))
      refine WL.gT 53 rfl rfl rfl (WL.op rfl (opW.boolF (by rw [hsm]; simp) (opW.neq rfl rfl ⟨rfl, rfl⟩) ?_))
      refine WL.op rfl (opW.pickT rfl rfl ?_)
      refine WL.op rfl (opW.moveB rfl ?_)
      refine WL.gT 58 rfl rfl rfl (WL.op rfl (opW.moveV (v := v23) rfl ?_))
      refine WL.gT 58 rfl rfl rfl (WL.op rfl (opW.lenV rfl ((hS.sl (v := v23) (xs := out) (by first | exact .here | exact .there (.here) | exact .there (.there (.here)) | exact .there (.there (.there (.here))) | exact .there (.there (.there (.there (.here)))) | exact .there (.there (.there (.there (.there (.here))))) | exact .there (.there (.there (.there (.there (.there (.here)))))) | exact .there (.there (.there (.there (.there (.there (.there (.here))))))) | exact .there (.there (.there (.there (.there (.there (.there (.there (.here)))))))) | exact .there (.there (.there (.there (.there (.there (.there (.there (.there (.here))))))))) | exact .there (.there (.there (.there (.there (.there (.there (.there (.there (.there (.here)))))))))) | exact .there (.there (.there (.there (.there (.there (.there (.there (.there (.there (.there (.here))))))))))) | exact .there (.there (.there (.there (.there (.there (.there (.there (.there (.there (.there (.there (.here))))))))))))))) ?_))
      refine WL.gT 58 rfl rfl rfl (WL.op rfl (opW.fieldAddrB rfl ?_))
      refine WL.gT 58 rfl rfl rfl (WL.op rfl (opW.loadV rfl (hS.ld1 (by first | exact .here | exact .there (.here) | exact .there (.there (.here)) | exact .there (.there (.there (.here))) | exact .there (.there (.there (.there (.here)))) | exact .there (.there (.there (.there (.there (.here))))) | exact .there (.there (.there (.there (.there (.there (.here)))))) | exact .there (.there (.there (.there (.there (.there (.there (.here))))))) | exact .there (.there (.there (.there (.there (.there (.there (.there (.here)))))))) | exact .there (.there (.there (.there (.there (.there (.there (.there (.there (.here))))))))) | exact .there (.there (.there (.there (.there (.there (.there (.there (.there (.there (.here)))))))))) | exact .there (.there (.there (.there (.there (.there (.there (.there (.there (.there (.there (.here))))))))))) | exact .there (.there (.there (.there (.there (.there (.there (.there (.there (.there (.there (.there (.here))))))))))))) (LAsk.at_l q)) ?_))
      refine WL.gT 58 rfl rfl rfl (WL.op rfl (opW.lenV rfl ((hl.bel hS.old)) ?_))
      refine WL.gT 58 rfl rfl rfl (WL.op rfl (opW.boolF (by rw [hol]; simp) (opW.neq rfl rfl ⟨rfl, rfl⟩) ?_))
      refine WL.op rfl (opW.pickT rfl rfl ?_)
      refine WL.op rfl (opW.moveB rfl ?_)
      refine WL.gT 66 rfl rfl rfl (WL.op rfl (opW.moveI rfl ?_))
      refine WL.gT 66 rfl rfl rfl (WL.op rfl (opW.boolF (decide_eq_false (by omega)) (opW.gtr rfl rfl ⟨rfl, rfl⟩) ?_))
      refine WL.op rfl (opW.pickT rfl rfl ?_)
      refine WL.nil ?_
      refine thenQ_n (hK12 _ _ ?_)
      refine WC.cond _ rfl (fun hc2 => ?_) (fun hc2 => ?_)
      ·
        have hr2 := hc2
        try simp only [decide_eq_true_eq, decide_eq_false_iff_not, Bool.and_eq_true, Bool.or_eq_true, Bool.and_eq_false_iff, Bool.or_eq_false_iff, Bool.not_eq_true', Bool.not_eq_false', Int.not_lt, Int.not_le] at hc2
        simp at hr2
      ·
        have hr2 := hc2
        try simp only [decide_eq_true_eq, decide_eq_false_iff_not, Bool.and_eq_true, Bool.or_eq_true, Bool.and_eq_false_iff, Bool.or_eq_false_iff, Bool.not_eq_true', Bool.not_eq_false', Int.not_lt, Int.not_le] at hc2
        refine WC.skip ?_
        refine thenQ_n (hK11 _ _ ?_)
        refine WC.seq (fun K13 hK13 => ?_)
        refine WC.region ?_
        refine WL.op rfl (opW.assignI rfl ?_)
        refine WL.nil ?_
        refine thenQ_n (hK13 _ _ ?_)
        refine WC.seq (fun K14 hK14 => ?_)
        refine WC.seq (fun K15 hK15 => ?_)
        refine WC.region ?_
        refine WL.op rfl (opW.assignI rfl ?_)
        refine WL.nil ?_
        refine thenQ_n (hK15 _ _ ?_)
        refine WC.block ?_
        refine WC.loop (fun q1 f w => ∃ k : Nat, Fits [(1, .pointer (some ⟨b1, 0, none⟩)), (3, v23), (4, .int .u64 ((x.space : Nat) : Int)), (10, .int .i64 (((List.range k).countP (chB out l) : Nat) : Int)), (11, .int .i64 (k : Int))] f ∧ St w0 [ownE v23 48 out, blkE b1 (Enc.enc q) 28] w ∧ k ≤ l.length ∧ q1 = l.length - k) (l.length) ?_ ?_
        ·
          exact ⟨0, ⟨rfl, rfl, rfl, rfl, rfl, trivial⟩, hS, Nat.zero_le _, rfl⟩
        ·
          rintro q1 f w ⟨k, hfit, hS, hk0, hm⟩
          refine WC.fits _ hfit (fun g => ?_)
          clear hfit
          refine WC.seq (fun K16 hK16 => ?_)
          refine WC.seq (fun K17 hK17 => ?_)
          refine WC.region ?_
          refine WL.op rfl (opW.moveI rfl ?_)
          refine WL.op rfl (opW.moveV (v := v23) rfl ?_)
          refine WL.op rfl (opW.lenV rfl ((hS.sl (v := v23) (xs := out) (by first | exact .here | exact .there (.here) | exact .there (.there (.here)) | exact .there (.there (.there (.here))) | exact .there (.there (.there (.there (.here)))) | exact .there (.there (.there (.there (.there (.here))))) | exact .there (.there (.there (.there (.there (.there (.here)))))) | exact .there (.there (.there (.there (.there (.there (.there (.here))))))) | exact .there (.there (.there (.there (.there (.there (.there (.there (.here)))))))) | exact .there (.there (.there (.there (.there (.there (.there (.there (.there (.here))))))))) | exact .there (.there (.there (.there (.there (.there (.there (.there (.there (.there (.here)))))))))) | exact .there (.there (.there (.there (.there (.there (.there (.there (.there (.there (.there (.here))))))))))) | exact .there (.there (.there (.there (.there (.there (.there (.there (.there (.there (.there (.there (.here))))))))))))))) ?_)
          refine WL.op rfl (opW.lss rfl rfl ?_)
          refine WL.nil ?_
          refine thenQ_n (hK17 _ _ ?_)
          refine WC.cond _ rfl (fun hc3 => ?_) (fun hc3 => ?_)
          ·
            have hr3 := hc3
            try simp only [decide_eq_true_eq, decide_eq_false_iff_not, Bool.and_eq_true, Bool.or_eq_true, Bool.and_eq_false_iff, Bool.or_eq_false_iff, Bool.not_eq_true', Bool.not_eq_false', Int.not_lt, Int.not_le] at hc3
            have hkl : k < l.length := by omega
            have hko : k < out.length := by omega
            have hkr : k < r.length := by omega
            have hch := chB_of hko hkl
            have hcc := hco.chg k hko hkl hkr
            have hcl := count_le (chB out l) k
            refine WC.skip ?_
            refine thenQ_n (hK16 _ _ ?_)
            refine WC.seq (fun K18 hK18 => ?_)
            refine WC.block ?_
            refine WC.seq (fun K19 hK19 => ?_)
            refine WC.region ?_
            refine WL.op rfl (opW.fieldAddrB rfl ?_)
            refine WL.op rfl (opW.loadV rfl (hS.ld1 (by first | exact .here | exact .there (.here) | exact .there (.there (.here)) | exact .there (.there (.there (.here))) | exact .there (.there (.there (.there (.here)))) | exact .there (.there (.there (.there (.there (.here))))) | exact .there (.there (.there (.there (.there (.there (.here)))))) | exact .there (.there (.there (.there (.there (.there (.there (.here))))))) | exact .there (.there (.there (.there (.there (.there (.there (.there (.here)))))))) | exact .there (.there (.there (.there (.there (.there (.there (.there (.there (.here))))))))) | exact .there (.there (.there (.there (.there (.there (.there (.there (.there (.there (.here)))))))))) | exact .there (.there (.there (.there (.there (.there (.there (.there (.there (.there (.there (.here))))))))))) | exact .there (.there (.there (.there (.there (.there (.there (.there (.there (.there (.there (.there (.here))))))))))))) (LAsk.at_l q)) ?_)
            refine WL.op rfl (opW.moveI rfl ?_)
            refine WL.op rfl (opW.idxV rfl ((hl.bel hS.old)) rfl (by omega) ?_)
            refine WL.op rfl (opW.loadV rfl (((hl.bel hS.old).isPt hkl).ldA (Enc.size_eq l[k])) ?_)
            refine WL.op rfl (opW.allocA hS ?_)
            intro b12 w _ hS
            refine WL.op0 (opW.storeE hS rfl rfl (by first | exact .here | exact .there (.here) | exact .there (.there (.here)) | exact .there (.there (.there (.here))) | exact .there (.there (.there (.there (.here)))) | exact .there (.there (.there (.there (.there (.here))))) | exact .there (.there (.there (.there (.there (.there (.here)))))) | exact .there (.there (.there (.there (.there (.there (.there (.here))))))) | exact .there (.there (.there (.there (.there (.there (.there (.there (.here)))))))) | exact .there (.there (.there (.there (.there (.there (.there (.there (.there (.here))))))))) | exact .there (.there (.there (.there (.there (.there (.there (.there (.there (.there (.here)))))))))) | exact .there (.there (.there (.there (.there (.there (.there (.there (.there (.there (.there (.here))))))))))) | exact .there (.there (.there (.there (.there (.there (.there (.there (.there (.there (.there (.there (.here))))))))))))) (by first | rfl | exact Enc.size_eq _) ?_)
            intro w hS; replace hS := hS _ (by first | exact .here | exact .there (.here) | exact .there (.there (.here)) | exact .there (.there (.there (.here))) | exact .there (.there (.there (.there (.here)))) | exact .there (.there (.there (.there (.there (.here))))) | exact .there (.there (.there (.there (.there (.there (.here)))))) | exact .there (.there (.there (.there (.there (.there (.there (.here))))))) | exact .there (.there (.there (.there (.there (.there (.there (.there (.here)))))))) | exact .there (.there (.there (.there (.there (.there (.there (.there (.there (.here))))))))) | exact .there (.there (.there (.there (.there (.there (.there (.there (.there (.there (.here)))))))))) | exact .there (.there (.there (.there (.there (.there (.there (.there (.there (.there (.there (.here))))))))))) | exact .there (.there (.there (.there (.there (.there (.there (.there (.there (.there (.there (.there (.here)))))))))))))
            refine WL.nil ?_
            refine thenQ_n (hK19 _ _ ?_)
            refine WC.seq (fun K20 hK20 => ?_)
            refine WC.seq (fun K21 hK21 => ?_)
            refine WC.draw 6 (.look 0 (.look 1 (.look 2 (.look 3 (.look 4 (.look 5 .nil)))))) (by kernel_rfl) (fun _ _ _ h => h) (fun w1 hw1 => ?_)
            replace hS := hS.bel hw1
            have hS1 := hS
            have hT := St.start w1
            refine ML.look rfl rfl rfl (fun w hw => (by have hS := hS1.bel hw; exact opW.moveV (v := v23) rfl ⟨rfl, rfl⟩)) ?_
            refine ML.look rfl rfl rfl (fun w hw => (by have hS := hS1.bel hw; exact opW.moveI rfl ⟨rfl, rfl⟩)) ?_
            refine ML.look rfl rfl rfl (fun w hw => (by have hS := hS1.bel hw; exact opW.idxV rfl ((hS.sl (v := v23) (xs := out) (by first | exact .here | exact .there (.here) | exact .there (.there (.here)) | exact .there (.there (.there (.here))) | exact .there (.there (.there (.there (.here)))) | exact .there (.there (.there (.there (.there (.here))))) | exact .there (.there (.there (.there (.there (.there (.here)))))) | exact .there (.there (.there (.there (.there (.there (.there (.here))))))) | exact .there (.there (.there (.there (.there (.there (.there (.there (.here)))))))) | exact .there (.there (.there (.there (.there (.there (.there (.there (.there (.here))))))))) | exact .there (.there (.there (.there (.there (.there (.there (.there (.there (.there (.here)))))))))) | exact .there (.there (.there (.there (.there (.there (.there (.there (.there (.there (.there (.here))))))))))) | exact .there (.there (.there (.there (.there (.there (.there (.there (.there (.there (.there (.there (.here))))))))))))))) rfl (by omega) ⟨rfl, rfl⟩)) ?_
            refine ML.look rfl rfl rfl (fun w hw => (by have hS := hS1.bel hw; exact opW.loadV rfl (((hS.sl (v := v23) (xs := out) (by first | exact .here | exact .there (.here) | exact .there (.there (.here)) | exact .there (.there (.there (.here))) | exact .there (.there (.there (.there (.here)))) | exact .there (.there (.there (.there (.there (.here))))) | exact .there (.there (.there (.there (.there (.there (.here)))))) | exact .there (.there (.there (.there (.there (.there (.there (.here))))))) | exact .there (.there (.there (.there (.there (.there (.there (.there (.here)))))))) | exact .there (.there (.there (.there (.there (.there (.there (.there (.there (.here))))))))) | exact .there (.there (.there (.there (.there (.there (.there (.there (.there (.there (.here)))))))))) | exact .there (.there (.there (.there (.there (.there (.there (.there (.there (.there (.there (.here))))))))))) | exact .there (.there (.there (.there (.there (.there (.there (.there (.there (.there (.there (.there (.here)))))))))))))).isPt hko).ldA (Enc.size_eq out[k])) ⟨rfl, rfl⟩)) ?_
            refine ML.look rfl rfl rfl (fun w hw => (by have hS := hS1.bel hw; exact opW.loadV rfl (hS.ldA (cs := Enc.enc l[k]) (by first | exact .here | exact .there (.here) | exact .there (.there (.here)) | exact .there (.there (.there (.here))) | exact .there (.there (.there (.there (.here)))) | exact .there (.there (.there (.there (.there (.here))))) | exact .there (.there (.there (.there (.there (.there (.here)))))) | exact .there (.there (.there (.there (.there (.there (.there (.here))))))) | exact .there (.there (.there (.there (.there (.there (.there (.there (.here)))))))) | exact .there (.there (.there (.there (.there (.there (.there (.there (.there (.here))))))))) | exact .there (.there (.there (.there (.there (.there (.there (.there (.there (.there (.here)))))))))) | exact .there (.there (.there (.there (.there (.there (.there (.there (.there (.there (.there (.here))))))))))) | exact .there (.there (.there (.there (.there (.there (.there (.there (.there (.there (.there (.there (.here))))))))))))) (Enc.size_eq _)) ⟨rfl, rfl⟩)) ?_
            refine ML.look rfl rfl rfl (fun w hw => (by have hS := hS1.bel hw; exact opW.eqlE rfl rfl ⟨rfl, rfl⟩)) ?_
            refine ML.nil ?_
            refine thenQ_n (hK21 _ _ ?_)
            refine WC.cond _ rfl (fun hc4 => ?_) (fun hc4 => ?_)
            ·
              have hr4 := hc4
              try simp only [decide_eq_true_eq, decide_eq_false_iff_not, Bool.and_eq_true, Bool.or_eq_true, Bool.and_eq_false_iff, Bool.or_eq_false_iff, Bool.not_eq_true', Bool.not_eq_false', Int.not_lt, Int.not_le] at hc4
              have hcnt : (((List.range (k + 1)).countP (chB out l) : Nat) : Int) = (((List.range k).countP (chB out l) : Nat) : Int) := by
                rw [count_next, hch, if_neg (by rw [decide_eq_false (fun e => e (of_decide_eq_true hr4))]; decide), Nat.add_zero]
              refine WC.exit ?_
              refine thenQ_e ?_
              refine blockQ_hit ?_
              refine thenQ_n (hK18 _ _ ?_)
              refine WC.region ?_
              refine WL.op rfl (opW.moveI rfl ?_)
              refine WL.op rfl (opW.add rfl rfl (wrap_i64 (by omega)) ?_)
              refine WL.op rfl (opW.assignI rfl ?_)
              refine WL.nil ?_
              refine thenQ_n ?_
              exact ⟨l.length - (k + 1), by omega, k + 1, ⟨rfl, rfl, rfl, congrArg (Value.int .i64) hcnt.symm, congrArg (Value.int .i64) (by omega), trivial⟩, hS.sub (by repeat (first | with_reducible exact List.nil_sublist _ | with_reducible exact List.Sublist.refl _ | with_reducible refine List.Sublist.cons₂ _ ?_ | with_reducible refine List.Sublist.cons _ ?_)), by omega, rfl⟩
            ·
              have hr4 := hc4
              try simp only [decide_eq_true_eq, decide_eq_false_iff_not, Bool.and_eq_true, Bool.or_eq_true, Bool.and_eq_false_iff, Bool.or_eq_false_iff, Bool.not_eq_true', Bool.not_eq_false', Int.not_lt, Int.not_le] at hc4
              have hne : out[k] ≠ l[k] := of_decide_eq_false hr4
              have hcnt : (((List.range (k + 1)).countP (chB out l) : Nat) : Int) = (((List.range k).countP (chB out l) : Nat) : Int) + 1 := by
                rw [count_next, hch, if_pos (decide_eq_true hne)]; rfl
              obtain ⟨c1, c2, c3, c4⟩ := hcc hne
              refine WC.skip ?_
              refine thenQ_n (hK20 _ _ ?_)
              refine WC.seq (fun K22 hK22 => ?_)
              refine WC.region ?_
              refine WL.op rfl (opW.moveI rfl ?_)
              refine WL.op rfl (opW.add rfl rfl (wrap_i64 (by omega)) ?_)
              refine WL.op rfl (opW.assignI rfl ?_)
              refine WL.nil ?_
              refine thenQ_n (hK22 _ _ ?_)
              refine WC.seq (fun K23 hK23 => ?_)
              refine WC.seq (fun K24 hK24 => ?_)
              refine WC.draw 33 (.look 0 (.look 1 (.look 2 (.look 3 (.look 4 (.look 5 (.look 6 (.look 7 (.look 8 (.look 9 (.look 10 (.look 11 (.look 12 (.look 13 (.look 14 (.look 15 (.look 16 (.look 17 (.look 18 (.look 19 (.look 20 (.look 21 (.look 22 (.look 23 (.look 24 (.look 25 (.look 26 (.look 27 (.look 28 (.look 29 (.look 30 (.look 31 (.look 32 .nil))))))))))))))))))))))))))))))))) (by kernel_rfl) (fun _ _ _ h => h) (fun w1 hw1 => ?_)
              replace hS := hS.bel hw1
              have hS1 := hS
              have hT := St.start w1
              refine ML.look rfl rfl rfl (fun w hw => (by have hS := hS1.bel hw; exact opW.fieldAddrB rfl ⟨rfl, rfl⟩)) ?_
              refine ML.look rfl rfl rfl (fun w hw => (by have hS := hS1.bel hw; exact opW.loadV rfl (hS.ld1 (by first | exact .here | exact .there (.here) | exact .there (.there (.here)) | exact .there (.there (.there (.here))) | exact .there (.there (.there (.there (.here)))) | exact .there (.there (.there (.there (.there (.here))))) | exact .there (.there (.there (.there (.there (.there (.here)))))) | exact .there (.there (.there (.there (.there (.there (.there (.here))))))) | exact .there (.there (.there (.there (.there (.there (.there (.there (.here)))))))) | exact .there (.there (.there (.there (.there (.there (.there (.there (.there (.here))))))))) | exact .there (.there (.there (.there (.there (.there (.there (.there (.there (.there (.here)))))))))) | exact .there (.there (.there (.there (.there (.there (.there (.there (.there (.there (.there (.here))))))))))) | exact .there (.there (.there (.there (.there (.there (.there (.there (.there (.there (.there (.there (.here))))))))))))) (LAsk.at_r q)) ⟨rfl, rfl⟩)) ?_
              refine ML.look rfl rfl rfl (fun w hw => (by have hS := hS1.bel hw; exact opW.moveI rfl ⟨rfl, rfl⟩)) ?_
              refine ML.look rfl rfl rfl (fun w hw => (by have hS := hS1.bel hw; exact opW.idxV rfl ((hr.bel hS.old)) rfl (by omega) ⟨rfl, rfl⟩)) ?_
              refine ML.look rfl rfl rfl (fun w hw => (by have hS := hS1.bel hw; exact opW.fieldAddr rfl ((hr.bel hS.old).isP hkr) ⟨rfl, rfl⟩)) ?_
              refine ML.look rfl rfl rfl (fun w hw => (by have hS := hS1.bel hw; exact opW.loadV rfl (Ld.pt1 ((hr.bel hS.old).isPt hkr) 33 (Role.at_writes _)) ⟨rfl, rfl⟩)) ?_
              refine ML.look rfl rfl rfl (fun w hw => (by have hS := hS1.bel hw; exact opW.not rfl ⟨rfl, rfl⟩)) ?_
              refine ML.look rfl rfl rfl (fun w hw => (by have hS := hS1.bel hw; exact opW.moveB rfl ⟨rfl, rfl⟩)) ?_
              refine ML.lookG  _ 96 rfl rfl rfl rfl rfl rfl (fun hg97 w hw => (by have hS := hS1.bel hw; exact opW.fieldAddrB rfl ⟨rfl, rfl⟩)) ?_
              refine ML.lookG  _ 96 rfl rfl rfl rfl rfl rfl (fun hg98 w hw => (by have hS := hS1.bel hw; exact opW.loadV (by first | exact gv_of rfl hg98 | rfl) (hS.ldF (cs := Enc.enc l[k]) (o := 1) (by first | exact .here | exact .there (.here) | exact .there (.there (.here)) | exact .there (.there (.there (.here))) | exact .there (.there (.there (.there (.here)))) | exact .there (.there (.there (.there (.there (.here))))) | exact .there (.there (.there (.there (.there (.there (.here)))))) | exact .there (.there (.there (.there (.there (.there (.there (.here))))))) | exact .there (.there (.there (.there (.there (.there (.there (.there (.here)))))))) | exact .there (.there (.there (.there (.there (.there (.there (.there (.there (.here))))))))) | exact .there (.there (.there (.there (.there (.there (.there (.there (.there (.there (.here)))))))))) | exact .there (.there (.there (.there (.there (.there (.there (.there (.there (.there (.there (.here))))))))))) | exact .there (.there (.there (.there (.there (.there (.there (.there (.there (.there (.there (.there (.here))))))))))))) (Account.ex_owner _) (by rw [Enc.size_eq]; decide)) ⟨rfl, rfl⟩)) ?_
              refine ML.lookG  _ 96 rfl rfl rfl rfl rfl rfl (fun hg99 w hw => (by have hS := hS1.bel hw; exact opW.buildVec (k := sysK) (by first | rfl | (simp only [sysK, az, kk, enc_vset, enc_vz]; rfl)) (by intro p hp; first | (exfalso; simp at hp; done) | (simp only [List.map_cons, List.map_nil, List.mem_cons, List.not_mem_nil, or_false] at hp; rcases hp with rfl | rfl | rfl | rfl <;> exact ⟨by simp, rfl⟩)) ⟨rfl, rfl⟩)) ?_
              refine ML.lookG  _ 96 rfl rfl rfl rfl rfl rfl (fun hg100 w hw => (by have hS := hS1.bel hw; exact opW.neqE (by first | exact gv_of rfl hg100 | rfl) (by first | exact gv_of rfl hg100 | rfl) ⟨rfl, rfl⟩)) ?_
              refine ML.lookG  _ 96 rfl rfl rfl rfl rfl rfl (fun hg101 w hw => (by have hS := hS1.bel hw; exact opW.moveB (by first | exact gv_of rfl hg101 | rfl) ⟨rfl, rfl⟩)) ?_
              refine ML.lookG2 _  _ 101 rfl rfl rfl rfl rfl rfl (fun hg102 w hw => (by have hS := hS1.bel hw; exact opW.moveV (v := v23) rfl ⟨rfl, rfl⟩)) ?_
              refine ML.lookG2 _  _ 101 rfl rfl rfl rfl rfl rfl (fun hg103 w hw => (by have hS := hS1.bel hw; exact opW.moveI rfl ⟨rfl, rfl⟩)) ?_
              refine ML.lookG2 _  _ 101 rfl rfl rfl rfl rfl rfl (fun hg104 w hw => (by have hS := hS1.bel hw; exact opW.idxV (k := .i64) (i := (k : Int)) (v := v23) (by first | exact gv_of rfl hg104 | rfl) (hS.sl (v := v23) (xs := out) (by first | exact .here | exact .there (.here) | exact .there (.there (.here)) | exact .there (.there (.there (.here))) | exact .there (.there (.there (.there (.here)))) | exact .there (.there (.there (.there (.there (.here))))) | exact .there (.there (.there (.there (.there (.there (.here)))))) | exact .there (.there (.there (.there (.there (.there (.there (.here))))))) | exact .there (.there (.there (.there (.there (.there (.there (.there (.here)))))))) | exact .there (.there (.there (.there (.there (.there (.there (.there (.there (.here))))))))) | exact .there (.there (.there (.there (.there (.there (.there (.there (.there (.there (.here)))))))))) | exact .there (.there (.there (.there (.there (.there (.there (.there (.there (.there (.there (.here))))))))))) | exact .there (.there (.there (.there (.there (.there (.there (.there (.there (.there (.there (.there (.here)))))))))))))) (by first | exact gv_of rfl hg104 | rfl) (by omega) ⟨rfl, rfl⟩)) ?_
              refine ML.lookG2 _  _ 101 rfl rfl rfl rfl rfl rfl (fun hg105 w hw => (by have hS := hS1.bel hw; exact opW.fieldAddr (by first | exact gv_of rfl hg105 | rfl) ((hS.sl (v := v23) (xs := out) (by first | exact .here | exact .there (.here) | exact .there (.there (.here)) | exact .there (.there (.there (.here))) | exact .there (.there (.there (.there (.here)))) | exact .there (.there (.there (.there (.there (.here))))) | exact .there (.there (.there (.there (.there (.there (.here)))))) | exact .there (.there (.there (.there (.there (.there (.there (.here))))))) | exact .there (.there (.there (.there (.there (.there (.there (.there (.here)))))))) | exact .there (.there (.there (.there (.there (.there (.there (.there (.there (.here))))))))) | exact .there (.there (.there (.there (.there (.there (.there (.there (.there (.there (.here)))))))))) | exact .there (.there (.there (.there (.there (.there (.there (.there (.there (.there (.there (.here))))))))))) | exact .there (.there (.there (.there (.there (.there (.there (.there (.there (.there (.there (.there (.here)))))))))))))).isP hko) ⟨rfl, rfl⟩)) ?_
              refine ML.lookG2 _  _ 101 rfl rfl rfl rfl rfl rfl (fun hg106 w hw => (by have hS := hS1.bel hw; exact opW.loadV (by first | exact gv_of rfl hg106 | rfl) (Ld.pt1 ((hS.sl (v := v23) (xs := out) (by first | exact .here | exact .there (.here) | exact .there (.there (.here)) | exact .there (.there (.there (.here))) | exact .there (.there (.there (.there (.here)))) | exact .there (.there (.there (.there (.there (.here))))) | exact .there (.there (.there (.there (.there (.there (.here)))))) | exact .there (.there (.there (.there (.there (.there (.there (.here))))))) | exact .there (.there (.there (.there (.there (.there (.there (.there (.here)))))))) | exact .there (.there (.there (.there (.there (.there (.there (.there (.there (.here))))))))) | exact .there (.there (.there (.there (.there (.there (.there (.there (.there (.there (.here)))))))))) | exact .there (.there (.there (.there (.there (.there (.there (.there (.there (.there (.there (.here))))))))))) | exact .there (.there (.there (.there (.there (.there (.there (.there (.there (.there (.there (.there (.here)))))))))))))).isPt hko) 0 (Account.at_coins _)) ⟨rfl, rfl⟩)) ?_
              refine ML.lookG2 _  _ 101 rfl rfl rfl rfl rfl rfl (fun hg107 w hw => (by have hS := hS1.bel hw; exact opW.fieldAddrB rfl ⟨rfl, rfl⟩)) ?_
              refine ML.lookG2 _  _ 101 rfl rfl rfl rfl rfl rfl (fun hg108 w hw => (by have hS := hS1.bel hw; exact opW.loadV (by first | exact gv_of rfl hg108 | rfl) (hS.ld1 (by first | exact .here | exact .there (.here) | exact .there (.there (.here)) | exact .there (.there (.there (.here))) | exact .there (.there (.there (.there (.here)))) | exact .there (.there (.there (.there (.there (.here))))) | exact .there (.there (.there (.there (.there (.there (.here)))))) | exact .there (.there (.there (.there (.there (.there (.there (.here))))))) | exact .there (.there (.there (.there (.there (.there (.there (.there (.here)))))))) | exact .there (.there (.there (.there (.there (.there (.there (.there (.there (.here))))))))) | exact .there (.there (.there (.there (.there (.there (.there (.there (.there (.there (.here)))))))))) | exact .there (.there (.there (.there (.there (.there (.there (.there (.there (.there (.there (.here))))))))))) | exact .there (.there (.there (.there (.there (.there (.there (.there (.there (.there (.there (.there (.here))))))))))))) (Account.at_coins l[k])) ⟨rfl, rfl⟩)) ?_
              refine ML.lookG2 _  _ 101 rfl rfl rfl rfl rfl rfl (fun hg109 w hw => (by have hS := hS1.bel hw; exact opW.lss (by first | exact gv_of rfl hg109 | rfl) (by first | exact gv_of rfl hg109 | rfl) ⟨rfl, rfl⟩)) ?_
              refine ML.lookG2 _  _ 101 rfl rfl rfl rfl rfl rfl (fun hg110 w hw => (by have hS := hS1.bel hw; exact opW.moveB (by first | exact gv_of rfl hg110 | rfl) ⟨rfl, rfl⟩)) ?_
              refine ML.lookG2 _  _ 110 rfl rfl rfl rfl rfl rfl (fun hg111 w hw => (by have hS := hS1.bel hw; exact opW.moveV (v := v23) rfl ⟨rfl, rfl⟩)) ?_
              refine ML.lookG2 _  _ 110 rfl rfl rfl rfl rfl rfl (fun hg112 w hw => (by have hS := hS1.bel hw; exact opW.moveI rfl ⟨rfl, rfl⟩)) ?_
              refine ML.lookG2 _  _ 110 rfl rfl rfl rfl rfl rfl (fun hg113 w hw => (by have hS := hS1.bel hw; exact opW.idxV (k := .i64) (i := (k : Int)) (v := v23) (by first | exact gv_of rfl hg113 | rfl) (hS.sl (v := v23) (xs := out) (by first | exact .here | exact .there (.here) | exact .there (.there (.here)) | exact .there (.there (.there (.here))) | exact .there (.there (.there (.there (.here)))) | exact .there (.there (.there (.there (.there (.here))))) | exact .there (.there (.there (.there (.there (.there (.here)))))) | exact .there (.there (.there (.there (.there (.there (.there (.here))))))) | exact .there (.there (.there (.there (.there (.there (.there (.there (.here)))))))) | exact .there (.there (.there (.there (.there (.there (.there (.there (.there (.here))))))))) | exact .there (.there (.there (.there (.there (.there (.there (.there (.there (.there (.here)))))))))) | exact .there (.there (.there (.there (.there (.there (.there (.there (.there (.there (.there (.here))))))))))) | exact .there (.there (.there (.there (.there (.there (.there (.there (.there (.there (.there (.there (.here)))))))))))))) (by first | exact gv_of rfl hg113 | rfl) (by omega) ⟨rfl, rfl⟩)) ?_
              refine ML.lookG2 _  _ 110 rfl rfl rfl rfl rfl rfl (fun hg114 w hw => (by have hS := hS1.bel hw; exact opW.fieldAddr (by first | exact gv_of rfl hg114 | rfl) ((hS.sl (v := v23) (xs := out) (by first | exact .here | exact .there (.here) | exact .there (.there (.here)) | exact .there (.there (.there (.here))) | exact .there (.there (.there (.there (.here)))) | exact .there (.there (.there (.there (.there (.here))))) | exact .there (.there (.there (.there (.there (.there (.here)))))) | exact .there (.there (.there (.there (.there (.there (.there (.here))))))) | exact .there (.there (.there (.there (.there (.there (.there (.there (.here)))))))) | exact .there (.there (.there (.there (.there (.there (.there (.there (.there (.here))))))))) | exact .there (.there (.there (.there (.there (.there (.there (.there (.there (.there (.here)))))))))) | exact .there (.there (.there (.there (.there (.there (.there (.there (.there (.there (.there (.here))))))))))) | exact .there (.there (.there (.there (.there (.there (.there (.there (.there (.there (.there (.there (.here)))))))))))))).isP hko) ⟨rfl, rfl⟩)) ?_
              refine ML.lookG2 _  _ 110 rfl rfl rfl rfl rfl rfl (fun hg115 w hw => (by have hS := hS1.bel hw; exact opW.loadV (by first | exact gv_of rfl hg115 | rfl) (Ld.ptA ((hS.sl (v := v23) (xs := out) (by first | exact .here | exact .there (.here) | exact .there (.there (.here)) | exact .there (.there (.there (.here))) | exact .there (.there (.there (.there (.here)))) | exact .there (.there (.there (.there (.there (.here))))) | exact .there (.there (.there (.there (.there (.there (.here)))))) | exact .there (.there (.there (.there (.there (.there (.there (.here))))))) | exact .there (.there (.there (.there (.there (.there (.there (.there (.here)))))))) | exact .there (.there (.there (.there (.there (.there (.there (.there (.there (.here))))))))) | exact .there (.there (.there (.there (.there (.there (.there (.there (.there (.there (.here)))))))))) | exact .there (.there (.there (.there (.there (.there (.there (.there (.there (.there (.there (.here))))))))))) | exact .there (.there (.there (.there (.there (.there (.there (.there (.there (.there (.there (.there (.here)))))))))))))).isPt hko) 1 (Account.ex_owner _) (by rw [Enc.size_eq]; decide)) ⟨rfl, rfl⟩)) ?_
              refine ML.lookG2 _  _ 110 rfl rfl rfl rfl rfl rfl (fun hg116 w hw => (by have hS := hS1.bel hw; exact opW.fieldAddrB rfl ⟨rfl, rfl⟩)) ?_
              refine ML.lookG2 _  _ 110 rfl rfl rfl rfl rfl rfl (fun hg117 w hw => (by have hS := hS1.bel hw; exact opW.loadV (by first | exact gv_of rfl hg117 | rfl) (hS.ldF (cs := Enc.enc l[k]) (o := 1) (by first | exact .here | exact .there (.here) | exact .there (.there (.here)) | exact .there (.there (.there (.here))) | exact .there (.there (.there (.there (.here)))) | exact .there (.there (.there (.there (.there (.here))))) | exact .there (.there (.there (.there (.there (.there (.here)))))) | exact .there (.there (.there (.there (.there (.there (.there (.here))))))) | exact .there (.there (.there (.there (.there (.there (.there (.there (.here)))))))) | exact .there (.there (.there (.there (.there (.there (.there (.there (.there (.here))))))))) | exact .there (.there (.there (.there (.there (.there (.there (.there (.there (.there (.here)))))))))) | exact .there (.there (.there (.there (.there (.there (.there (.there (.there (.there (.there (.here))))))))))) | exact .there (.there (.there (.there (.there (.there (.there (.there (.there (.there (.there (.there (.here))))))))))))) (Account.ex_owner _) (by rw [Enc.size_eq]; decide)) ⟨rfl, rfl⟩)) ?_
              refine ML.lookG2 _  _ 110 rfl rfl rfl rfl rfl rfl (fun hg118 w hw => (by have hS := hS1.bel hw; exact opW.neqE (by first | exact gv_of rfl hg118 | rfl) (by first | exact gv_of rfl hg118 | rfl) ⟨rfl, rfl⟩)) ?_
              refine ML.lookG2 _  _ 101 rfl rfl rfl rfl rfl rfl (fun hg119 w hw => (by have hS := hS1.bel hw; exact opW.pickOr (by first | exact gv_of rfl hg119 | rfl) rfl (by first | exact gv_and rfl hg119 | rfl) ⟨rfl, rfl⟩)) ?_
              refine ML.lookG  _ 96 rfl rfl rfl rfl rfl rfl (fun hg120 w hw => (by have hS := hS1.bel hw; exact opW.pickAnd (by first | exact gv_of rfl hg120 | rfl) (by first | exact gv_and rfl hg120 | rfl) rfl ⟨rfl, rfl⟩)) ?_
              refine ML.look rfl rfl rfl (fun w hw => (by have hS := hS1.bel hw; exact opW.pickOr rfl rfl (by first | rfl) ⟨rfl, rfl⟩)) ?_
              refine ML.nil ?_
              refine thenQ_n (hK24 _ _ ?_)
              refine WC.cond _ rfl (fun hc5 => ?_) (fun hc5 => ?_)
              ·
                have hr5 := hc5
                try simp only [decide_eq_true_eq, decide_eq_false_iff_not, Bool.and_eq_true, Bool.or_eq_true, Bool.and_eq_false_iff, Bool.or_eq_false_iff, Bool.not_eq_true', Bool.not_eq_false', Int.not_lt, Int.not_le] at hc5
                exfalso
                rw [c1] at hr5
                simp only [Bool.not_true, Bool.false_or, Bool.and_eq_true, Bool.or_eq_true, Bool.not_eq_true', decide_eq_false_iff_not, decide_eq_true_eq] at hr5
                obtain ⟨d1, d2⟩ := hr5
                obtain ⟨g1, g2⟩ := c2 d1
                rcases d2 with d2 | d2
                · omega
                · exact d2 g2
              ·
                have hr5 := hc5
                try simp only [decide_eq_true_eq, decide_eq_false_iff_not, Bool.and_eq_true, Bool.or_eq_true, Bool.and_eq_false_iff, Bool.or_eq_false_iff, Bool.not_eq_true', Bool.not_eq_false', Int.not_lt, Int.not_le] at hc5
                refine WC.skip ?_
                refine thenQ_n (hK23 _ _ ?_)
                refine WC.seq (fun K25 hK25 => ?_)
                refine WC.seq (fun K26 hK26 => ?_)
                refine WC.draw 37 (.look 0 (.look 1 (.look 2 (.look 3 (.look 4 (.look 5 (.look 6 (.look 7 (.look 8 (.look 9 (.look 10 (.look 11 (.look 12 (.look 13 (.look 14 (.look 15 (.look 16 (.look 17 (.look 18 (.look 19 (.look 20 (.look 21 (.look 22 (.look 23 (.look 24 (.look 25 (.look 26 (.look 27 (.look 28 (.look 29 (.look 30 (.look 31 (.look 32 (.look 33 (.look 34 (.look 35 (.look 36 .nil))))))))))))))))))))))))))))))))))))) (by kernel_rfl) (fun _ _ _ h => h) (fun w1 hw1 => ?_)
                replace hS := hS.bel hw1
                have hS1 := hS
                have hT := St.start w1
                refine ML.look rfl rfl rfl (fun w hw => (by have hS := hS1.bel hw; exact opW.moveV (v := v23) rfl ⟨rfl, rfl⟩)) ?_
                refine ML.look rfl rfl rfl (fun w hw => (by have hS := hS1.bel hw; exact opW.moveI rfl ⟨rfl, rfl⟩)) ?_
                refine ML.look rfl rfl rfl (fun w hw => (by have hS := hS1.bel hw; exact opW.idxV rfl ((hS.sl (v := v23) (xs := out) (by first | exact .here | exact .there (.here) | exact .there (.there (.here)) | exact .there (.there (.there (.here))) | exact .there (.there (.there (.there (.here)))) | exact .there (.there (.there (.there (.there (.here))))) | exact .there (.there (.there (.there (.there (.there (.here)))))) | exact .there (.there (.there (.there (.there (.there (.there (.here))))))) | exact .there (.there (.there (.there (.there (.there (.there (.there (.here)))))))) | exact .there (.there (.there (.there (.there (.there (.there (.there (.there (.here))))))))) | exact .there (.there (.there (.there (.there (.there (.there (.there (.there (.there (.here)))))))))) | exact .there (.there (.there (.there (.there (.there (.there (.there (.there (.there (.there (.here))))))))))) | exact .there (.there (.there (.there (.there (.there (.there (.there (.there (.there (.there (.there (.here))))))))))))))) rfl (by omega) ⟨rfl, rfl⟩)) ?_
                refine ML.look rfl rfl rfl (fun w hw => (by have hS := hS1.bel hw; exact opW.fieldAddr rfl ((hS.sl (v := v23) (xs := out) (by first | exact .here | exact .there (.here) | exact .there (.there (.here)) | exact .there (.there (.there (.here))) | exact .there (.there (.there (.there (.here)))) | exact .there (.there (.there (.there (.there (.here))))) | exact .there (.there (.there (.there (.there (.there (.here)))))) | exact .there (.there (.there (.there (.there (.there (.there (.here))))))) | exact .there (.there (.there (.there (.there (.there (.there (.there (.here)))))))) | exact .there (.there (.there (.there (.there (.there (.there (.there (.there (.here))))))))) | exact .there (.there (.there (.there (.there (.there (.there (.there (.there (.there (.here)))))))))) | exact .there (.there (.there (.there (.there (.there (.there (.there (.there (.there (.there (.here))))))))))) | exact .there (.there (.there (.there (.there (.there (.there (.there (.there (.there (.there (.there (.here)))))))))))))).isP hko) ⟨rfl, rfl⟩)) ?_
                refine ML.look rfl rfl rfl (fun w hw => (by have hS := hS1.bel hw; exact opW.loadV rfl (Ld.pt1 ((hS.sl (v := v23) (xs := out) (by first | exact .here | exact .there (.here) | exact .there (.there (.here)) | exact .there (.there (.there (.here))) | exact .there (.there (.there (.there (.here)))) | exact .there (.there (.there (.there (.there (.here))))) | exact .there (.there (.there (.there (.there (.there (.here)))))) | exact .there (.there (.there (.there (.there (.there (.there (.here))))))) | exact .there (.there (.there (.there (.there (.there (.there (.there (.here)))))))) | exact .there (.there (.there (.there (.there (.there (.there (.there (.there (.here))))))))) | exact .there (.there (.there (.there (.there (.there (.there (.there (.there (.there (.here)))))))))) | exact .there (.there (.there (.there (.there (.there (.there (.there (.there (.there (.there (.here))))))))))) | exact .there (.there (.there (.there (.there (.there (.there (.there (.there (.there (.there (.there (.here)))))))))))))).isPt hko) 0 (Account.at_coins _)) ⟨rfl, rfl⟩)) ?_
                refine ML.look rfl rfl rfl (fun w hw => (by have hS := hS1.bel hw; exact opW.fieldAddrB rfl ⟨rfl, rfl⟩)) ?_
                refine ML.look rfl rfl rfl (fun w hw => (by have hS := hS1.bel hw; exact opW.loadV rfl (hS.ld1 (by first | exact .here | exact .there (.here) | exact .there (.there (.here)) | exact .there (.there (.there (.here))) | exact .there (.there (.there (.there (.here)))) | exact .there (.there (.there (.there (.there (.here))))) | exact .there (.there (.there (.there (.there (.there (.here)))))) | exact .there (.there (.there (.there (.there (.there (.there (.here))))))) | exact .there (.there (.there (.there (.there (.there (.there (.there (.here)))))))) | exact .there (.there (.there (.there (.there (.there (.there (.there (.there (.here))))))))) | exact .there (.there (.there (.there (.there (.there (.there (.there (.there (.there (.here)))))))))) | exact .there (.there (.there (.there (.there (.there (.there (.there (.there (.there (.there (.here))))))))))) | exact .there (.there (.there (.there (.there (.there (.there (.there (.there (.there (.there (.there (.here))))))))))))) (Account.at_coins l[k])) ⟨rfl, rfl⟩)) ?_
                refine ML.look rfl rfl rfl (fun w hw => (by have hS := hS1.bel hw; exact opW.lss rfl rfl ⟨rfl, rfl⟩)) ?_
                refine ML.look rfl rfl rfl (fun w hw => (by have hS := hS1.bel hw; exact opW.moveB rfl ⟨rfl, rfl⟩)) ?_
                refine ML.lookG  _ 130 rfl rfl rfl rfl rfl rfl (fun hg131 w hw => (by have hS := hS1.bel hw; exact opW.moveV (v := v23) rfl ⟨rfl, rfl⟩)) ?_
                refine ML.lookG  _ 130 rfl rfl rfl rfl rfl rfl (fun hg132 w hw => (by have hS := hS1.bel hw; exact opW.moveI rfl ⟨rfl, rfl⟩)) ?_
                refine ML.lookG  _ 130 rfl rfl rfl rfl rfl rfl (fun hg133 w hw => (by have hS := hS1.bel hw; exact opW.idxV (k := .i64) (i := (k : Int)) (v := v23) (by first | exact gv_of rfl hg133 | rfl) (hS.sl (v := v23) (xs := out) (by first | exact .here | exact .there (.here) | exact .there (.there (.here)) | exact .there (.there (.there (.here))) | exact .there (.there (.there (.there (.here)))) | exact .there (.there (.there (.there (.there (.here))))) | exact .there (.there (.there (.there (.there (.there (.here)))))) | exact .there (.there (.there (.there (.there (.there (.there (.here))))))) | exact .there (.there (.there (.there (.there (.there (.there (.there (.here)))))))) | exact .there (.there (.there (.there (.there (.there (.there (.there (.there (.here))))))))) | exact .there (.there (.there (.there (.there (.there (.there (.there (.there (.there (.here)))))))))) | exact .there (.there (.there (.there (.there (.there (.there (.there (.there (.there (.there (.here))))))))))) | exact .there (.there (.there (.there (.there (.there (.there (.there (.there (.there (.there (.there (.here)))))))))))))) (by first | exact gv_of rfl hg133 | rfl) (by omega) ⟨rfl, rfl⟩)) ?_
                refine ML.lookG  _ 130 rfl rfl rfl rfl rfl rfl (fun hg134 w hw => (by have hS := hS1.bel hw; exact opW.fieldAddr (by first | exact gv_of rfl hg134 | rfl) ((hS.sl (v := v23) (xs := out) (by first | exact .here | exact .there (.here) | exact .there (.there (.here)) | exact .there (.there (.there (.here))) | exact .there (.there (.there (.there (.here)))) | exact .there (.there (.there (.there (.there (.here))))) | exact .there (.there (.there (.there (.there (.there (.here)))))) | exact .there (.there (.there (.there (.there (.there (.there (.here))))))) | exact .there (.there (.there (.there (.there (.there (.there (.there (.here)))))))) | exact .there (.there (.there (.there (.there (.there (.there (.there (.there (.here))))))))) | exact .there (.there (.there (.there (.there (.there (.there (.there (.there (.there (.here)))))))))) | exact .there (.there (.there (.there (.there (.there (.there (.there (.there (.there (.there (.here))))))))))) | exact .there (.there (.there (.there (.there (.there (.there (.there (.there (.there (.there (.there (.here)))))))))))))).isP hko) ⟨rfl, rfl⟩)) ?_
                refine ML.lookG  _ 130 rfl rfl rfl rfl rfl rfl (fun hg135 w hw => (by have hS := hS1.bel hw; exact opW.loadV (by first | exact gv_of rfl hg135 | rfl) (Ld.ptA ((hS.sl (v := v23) (xs := out) (by first | exact .here | exact .there (.here) | exact .there (.there (.here)) | exact .there (.there (.there (.here))) | exact .there (.there (.there (.there (.here)))) | exact .there (.there (.there (.there (.there (.here))))) | exact .there (.there (.there (.there (.there (.there (.here)))))) | exact .there (.there (.there (.there (.there (.there (.there (.here))))))) | exact .there (.there (.there (.there (.there (.there (.there (.there (.here)))))))) | exact .there (.there (.there (.there (.there (.there (.there (.there (.there (.here))))))))) | exact .there (.there (.there (.there (.there (.there (.there (.there (.there (.there (.here)))))))))) | exact .there (.there (.there (.there (.there (.there (.there (.there (.there (.there (.there (.here))))))))))) | exact .there (.there (.there (.there (.there (.there (.there (.there (.there (.there (.there (.there (.here)))))))))))))).isPt hko) 1 (Account.ex_owner _) (by rw [Enc.size_eq]; decide)) ⟨rfl, rfl⟩)) ?_
                refine ML.lookG  _ 130 rfl rfl rfl rfl rfl rfl (fun hg136 w hw => (by have hS := hS1.bel hw; exact opW.fieldAddrB rfl ⟨rfl, rfl⟩)) ?_
                refine ML.lookG  _ 130 rfl rfl rfl rfl rfl rfl (fun hg137 w hw => (by have hS := hS1.bel hw; exact opW.loadV (by first | exact gv_of rfl hg137 | rfl) (hS.ldF (cs := Enc.enc l[k]) (o := 1) (by first | exact .here | exact .there (.here) | exact .there (.there (.here)) | exact .there (.there (.there (.here))) | exact .there (.there (.there (.there (.here)))) | exact .there (.there (.there (.there (.there (.here))))) | exact .there (.there (.there (.there (.there (.there (.here)))))) | exact .there (.there (.there (.there (.there (.there (.there (.here))))))) | exact .there (.there (.there (.there (.there (.there (.there (.there (.here)))))))) | exact .there (.there (.there (.there (.there (.there (.there (.there (.there (.here))))))))) | exact .there (.there (.there (.there (.there (.there (.there (.there (.there (.there (.here)))))))))) | exact .there (.there (.there (.there (.there (.there (.there (.there (.there (.there (.there (.here))))))))))) | exact .there (.there (.there (.there (.there (.there (.there (.there (.there (.there (.there (.there (.here))))))))))))) (Account.ex_owner _) (by rw [Enc.size_eq]; decide)) ⟨rfl, rfl⟩)) ?_
                refine ML.lookG  _ 130 rfl rfl rfl rfl rfl rfl (fun hg138 w hw => (by have hS := hS1.bel hw; exact opW.neqE (by first | exact gv_of rfl hg138 | rfl) (by first | exact gv_of rfl hg138 | rfl) ⟨rfl, rfl⟩)) ?_
                refine ML.look rfl rfl rfl (fun w hw => (by have hS := hS1.bel hw; exact opW.pickOr rfl rfl (by first | rfl) ⟨rfl, rfl⟩)) ?_
                refine ML.look rfl rfl rfl (fun w hw => (by have hS := hS1.bel hw; exact opW.moveB rfl ⟨rfl, rfl⟩)) ?_
                refine ML.lookG  _ 140 rfl rfl rfl rfl rfl rfl (fun hg141 w hw => (by have hS := hS1.bel hw; exact opW.moveV (v := v23) rfl ⟨rfl, rfl⟩)) ?_
                refine ML.lookG  _ 140 rfl rfl rfl rfl rfl rfl (fun hg142 w hw => (by have hS := hS1.bel hw; exact opW.moveI rfl ⟨rfl, rfl⟩)) ?_
                refine ML.lookG  _ 140 rfl rfl rfl rfl rfl rfl (fun hg143 w hw => (by have hS := hS1.bel hw; exact opW.idxV (k := .i64) (i := (k : Int)) (v := v23) (by first | exact gv_of rfl hg143 | rfl) (hS.sl (v := v23) (xs := out) (by first | exact .here | exact .there (.here) | exact .there (.there (.here)) | exact .there (.there (.there (.here))) | exact .there (.there (.there (.there (.here)))) | exact .there (.there (.there (.there (.there (.here))))) | exact .there (.there (.there (.there (.there (.there (.here)))))) | exact .there (.there (.there (.there (.there (.there (.there (.here))))))) | exact .there (.there (.there (.there (.there (.there (.there (.there (.here)))))))) | exact .there (.there (.there (.there (.there (.there (.there (.there (.there (.here))))))))) | exact .there (.there (.there (.there (.there (.there (.there (.there (.there (.there (.here)))))))))) | exact .there (.there (.there (.there (.there (.there (.there (.there (.there (.there (.there (.here))))))))))) | exact .there (.there (.there (.there (.there (.there (.there (.there (.there (.there (.there (.there (.here)))))))))))))) (by first | exact gv_of rfl hg143 | rfl) (by omega) ⟨rfl, rfl⟩)) ?_
                refine ML.lookG  _ 140 rfl rfl rfl rfl rfl rfl (fun hg144 w hw => (by have hS := hS1.bel hw; exact opW.fieldAddr (by first | exact gv_of rfl hg144 | rfl) ((hS.sl (v := v23) (xs := out) (by first | exact .here | exact .there (.here) | exact .there (.there (.here)) | exact .there (.there (.there (.here))) | exact .there (.there (.there (.there (.here)))) | exact .there (.there (.there (.there (.there (.here))))) | exact .there (.there (.there (.there (.there (.there (.here)))))) | exact .there (.there (.there (.there (.there (.there (.there (.here))))))) | exact .there (.there (.there (.there (.there (.there (.there (.there (.here)))))))) | exact .there (.there (.there (.there (.there (.there (.there (.there (.there (.here))))))))) | exact .there (.there (.there (.there (.there (.there (.there (.there (.there (.there (.here)))))))))) | exact .there (.there (.there (.there (.there (.there (.there (.there (.there (.there (.there (.here))))))))))) | exact .there (.there (.there (.there (.there (.there (.there (.there (.there (.there (.there (.there (.here)))))))))))))).isP hko) ⟨rfl, rfl⟩)) ?_
                refine ML.lookG  _ 140 rfl rfl rfl rfl rfl rfl (fun hg145 w hw => (by have hS := hS1.bel hw; exact opW.loadV (by first | exact gv_of rfl hg145 | rfl) (Ld.pt1 ((hS.sl (v := v23) (xs := out) (by first | exact .here | exact .there (.here) | exact .there (.there (.here)) | exact .there (.there (.there (.here))) | exact .there (.there (.there (.there (.here)))) | exact .there (.there (.there (.there (.there (.here))))) | exact .there (.there (.there (.there (.there (.there (.here)))))) | exact .there (.there (.there (.there (.there (.there (.there (.here))))))) | exact .there (.there (.there (.there (.there (.there (.there (.there (.here)))))))) | exact .there (.there (.there (.there (.there (.there (.there (.there (.there (.here))))))))) | exact .there (.there (.there (.there (.there (.there (.there (.there (.there (.there (.here)))))))))) | exact .there (.there (.there (.there (.there (.there (.there (.there (.there (.there (.there (.here))))))))))) | exact .there (.there (.there (.there (.there (.there (.there (.there (.there (.there (.there (.there (.here)))))))))))))).isPt hko) 33 (Account.at_space _)) ⟨rfl, rfl⟩)) ?_
                refine ML.lookG  _ 140 rfl rfl rfl rfl rfl rfl (fun hg146 w hw => (by have hS := hS1.bel hw; exact opW.fieldAddrB rfl ⟨rfl, rfl⟩)) ?_
                refine ML.lookG  _ 140 rfl rfl rfl rfl rfl rfl (fun hg147 w hw => (by have hS := hS1.bel hw; exact opW.loadV (by first | exact gv_of rfl hg147 | rfl) (hS.ld1 (by first | exact .here | exact .there (.here) | exact .there (.there (.here)) | exact .there (.there (.there (.here))) | exact .there (.there (.there (.there (.here)))) | exact .there (.there (.there (.there (.there (.here))))) | exact .there (.there (.there (.there (.there (.there (.here)))))) | exact .there (.there (.there (.there (.there (.there (.there (.here))))))) | exact .there (.there (.there (.there (.there (.there (.there (.there (.here)))))))) | exact .there (.there (.there (.there (.there (.there (.there (.there (.there (.here))))))))) | exact .there (.there (.there (.there (.there (.there (.there (.there (.there (.there (.here)))))))))) | exact .there (.there (.there (.there (.there (.there (.there (.there (.there (.there (.there (.here))))))))))) | exact .there (.there (.there (.there (.there (.there (.there (.there (.there (.there (.there (.there (.here))))))))))))) (Account.at_space l[k])) ⟨rfl, rfl⟩)) ?_
                refine ML.lookG  _ 140 rfl rfl rfl rfl rfl rfl (fun hg148 w hw => (by have hS := hS1.bel hw; exact opW.neq (by first | exact gv_of rfl hg148 | rfl) (by first | exact gv_of rfl hg148 | rfl) ⟨rfl, rfl⟩)) ?_
                refine ML.look rfl rfl rfl (fun w hw => (by have hS := hS1.bel hw; exact opW.pickOr rfl rfl (by first | rfl) ⟨rfl, rfl⟩)) ?_
                refine ML.look rfl rfl rfl (fun w hw => (by have hS := hS1.bel hw; exact opW.moveB rfl ⟨rfl, rfl⟩)) ?_
                refine ML.lookG  _ 150 rfl rfl rfl rfl rfl rfl (fun hg151 w hw => (by have hS := hS1.bel hw; exact opW.fieldAddrB rfl ⟨rfl, rfl⟩)) ?_
                refine ML.lookG  _ 150 rfl rfl rfl rfl rfl rfl (fun hg152 w hw => (by have hS := hS1.bel hw; exact opW.loadV (by first | exact gv_of rfl hg152 | rfl) (hS.ld1 (by first | exact .here | exact .there (.here) | exact .there (.there (.here)) | exact .there (.there (.there (.here))) | exact .there (.there (.there (.there (.here)))) | exact .there (.there (.there (.there (.there (.here))))) | exact .there (.there (.there (.there (.there (.there (.here)))))) | exact .there (.there (.there (.there (.there (.there (.there (.here))))))) | exact .there (.there (.there (.there (.there (.there (.there (.there (.here)))))))) | exact .there (.there (.there (.there (.there (.there (.there (.there (.there (.here))))))))) | exact .there (.there (.there (.there (.there (.there (.there (.there (.there (.there (.here)))))))))) | exact .there (.there (.there (.there (.there (.there (.there (.there (.there (.there (.there (.here))))))))))) | exact .there (.there (.there (.there (.there (.there (.there (.there (.there (.there (.there (.there (.here))))))))))))) (LAsk.at_r q)) ⟨rfl, rfl⟩)) ?_
                refine ML.lookG  _ 150 rfl rfl rfl rfl rfl rfl (fun hg153 w hw => (by have hS := hS1.bel hw; exact opW.moveI rfl ⟨rfl, rfl⟩)) ?_
                refine ML.lookG  _ 150 rfl rfl rfl rfl rfl rfl (fun hg154 w hw => (by have hS := hS1.bel hw; exact opW.idxV (k := .i64) (i := (k : Int)) (v := q.r.v) (by first | exact gv_of rfl hg154 | rfl) (hr.bel hS.old) (by first | exact gv_of rfl hg154 | rfl) (by omega) ⟨rfl, rfl⟩)) ?_
                refine ML.lookG  _ 150 rfl rfl rfl rfl rfl rfl (fun hg155 w hw => (by have hS := hS1.bel hw; exact opW.fieldAddr (by first | exact gv_of rfl hg155 | rfl) ((hr.bel hS.old).isP hkr) ⟨rfl, rfl⟩)) ?_
                refine ML.lookG  _ 150 rfl rfl rfl rfl rfl rfl (fun hg156 w hw => (by have hS := hS1.bel hw; exact opW.loadV (by first | exact gv_of rfl hg156 | rfl) (Ld.pt1 ((hr.bel hS.old).isPt hkr) 32 (Role.at_signs _)) ⟨rfl, rfl⟩)) ?_
                refine ML.lookG  _ 150 rfl rfl rfl rfl rfl rfl (fun hg157 w hw => (by have hS := hS1.bel hw; exact opW.not (by first | exact gv_of rfl hg157 | rfl) ⟨rfl, rfl⟩)) ?_
                refine ML.look rfl rfl rfl (fun w hw => (by have hS := hS1.bel hw; exact opW.pickAnd rfl (by first | rfl) rfl ⟨rfl, rfl⟩)) ?_
                refine ML.nil ?_
                refine thenQ_n (hK26 _ _ ?_)
                refine WC.cond _ rfl (fun hc6 => ?_) (fun hc6 => ?_)
                ·
                  have hr6 := hc6
                  try simp only [decide_eq_true_eq, decide_eq_false_iff_not, Bool.and_eq_true, Bool.or_eq_true, Bool.and_eq_false_iff, Bool.or_eq_false_iff, Bool.not_eq_true', Bool.not_eq_false', Int.not_lt, Int.not_le] at hc6
                  exfalso
                  simp only [Bool.and_eq_true, Bool.or_eq_true, Bool.not_eq_true', decide_eq_false_iff_not, decide_eq_true_eq] at hr6
                  obtain ⟨d1, d2⟩ := hr6
                  have d3 : r[k].signs = true := c3 (by rcases d1 with (d1 | d1) | d1; exact .inl (by omega); exact .inr (.inl d1); exact .inr (.inr (by omega)))
                  rw [d3] at d2; cases d2
                ·
                  have hr6 := hc6
                  try simp only [decide_eq_true_eq, decide_eq_false_iff_not, Bool.and_eq_true, Bool.or_eq_true, Bool.and_eq_false_iff, Bool.or_eq_false_iff, Bool.not_eq_true', Bool.not_eq_false', Int.not_lt, Int.not_le] at hc6
                  refine WC.skip ?_
                  refine thenQ_n (hK25 _ _ ?_)
                  refine WC.seq (fun K27 hK27 => ?_)
                  refine WC.draw 22 (.look 0 (.look 1 (.look 2 (.look 3 (.look 4 (.look 5 (.look 6 (.look 7 (.look 8 (.look 9 (.look 10 (.look 11 (.look 12 (.look 13 (.look 14 (.look 15 (.look 16 (.look 17 (.look 18 (.look 19 (.look 20 (.look 21 .nil)))))))))))))))))))))) (by kernel_rfl) (fun _ _ _ h => h) (fun w1 hw1 => ?_)
                  replace hS := hS.bel hw1
                  have hS1 := hS
                  have hT := St.start w1
                  refine ML.look rfl rfl rfl (fun w hw => (by have hS := hS1.bel hw; exact opW.moveV (v := v23) rfl ⟨rfl, rfl⟩)) ?_
                  refine ML.look rfl rfl rfl (fun w hw => (by have hS := hS1.bel hw; exact opW.moveI rfl ⟨rfl, rfl⟩)) ?_
                  refine ML.look rfl rfl rfl (fun w hw => (by have hS := hS1.bel hw; exact opW.idxV rfl ((hS.sl (v := v23) (xs := out) (by first | exact .here | exact .there (.here) | exact .there (.there (.here)) | exact .there (.there (.there (.here))) | exact .there (.there (.there (.there (.here)))) | exact .there (.there (.there (.there (.there (.here))))) | exact .there (.there (.there (.there (.there (.there (.here)))))) | exact .there (.there (.there (.there (.there (.there (.there (.here))))))) | exact .there (.there (.there (.there (.there (.there (.there (.there (.here)))))))) | exact .there (.there (.there (.there (.there (.there (.there (.there (.there (.here))))))))) | exact .there (.there (.there (.there (.there (.there (.there (.there (.there (.there (.here)))))))))) | exact .there (.there (.there (.there (.there (.there (.there (.there (.there (.there (.there (.here))))))))))) | exact .there (.there (.there (.there (.there (.there (.there (.there (.there (.there (.there (.there (.here))))))))))))))) rfl (by omega) ⟨rfl, rfl⟩)) ?_
                  refine ML.look rfl rfl rfl (fun w hw => (by have hS := hS1.bel hw; exact opW.fieldAddr rfl ((hS.sl (v := v23) (xs := out) (by first | exact .here | exact .there (.here) | exact .there (.there (.here)) | exact .there (.there (.there (.here))) | exact .there (.there (.there (.there (.here)))) | exact .there (.there (.there (.there (.there (.here))))) | exact .there (.there (.there (.there (.there (.there (.here)))))) | exact .there (.there (.there (.there (.there (.there (.there (.here))))))) | exact .there (.there (.there (.there (.there (.there (.there (.there (.here)))))))) | exact .there (.there (.there (.there (.there (.there (.there (.there (.there (.here))))))))) | exact .there (.there (.there (.there (.there (.there (.there (.there (.there (.there (.here)))))))))) | exact .there (.there (.there (.there (.there (.there (.there (.there (.there (.there (.there (.here))))))))))) | exact .there (.there (.there (.there (.there (.there (.there (.there (.there (.there (.there (.there (.here)))))))))))))).isP hko) ⟨rfl, rfl⟩)) ?_
                  refine ML.look rfl rfl rfl (fun w hw => (by have hS := hS1.bel hw; exact opW.loadV rfl (Ld.pt1 ((hS.sl (v := v23) (xs := out) (by first | exact .here | exact .there (.here) | exact .there (.there (.here)) | exact .there (.there (.there (.here))) | exact .there (.there (.there (.there (.here)))) | exact .there (.there (.there (.there (.there (.here))))) | exact .there (.there (.there (.there (.there (.there (.here)))))) | exact .there (.there (.there (.there (.there (.there (.there (.here))))))) | exact .there (.there (.there (.there (.there (.there (.there (.there (.here)))))))) | exact .there (.there (.there (.there (.there (.there (.there (.there (.there (.here))))))))) | exact .there (.there (.there (.there (.there (.there (.there (.there (.there (.there (.here)))))))))) | exact .there (.there (.there (.there (.there (.there (.there (.there (.there (.there (.there (.here))))))))))) | exact .there (.there (.there (.there (.there (.there (.there (.there (.there (.there (.there (.there (.here)))))))))))))).isPt hko) 33 (Account.at_space _)) ⟨rfl, rfl⟩)) ?_
                  refine ML.look rfl rfl rfl (fun w hw => (by have hS := hS1.bel hw; exact opW.fieldAddrB rfl ⟨rfl, rfl⟩)) ?_
                  refine ML.look rfl rfl rfl (fun w hw => (by have hS := hS1.bel hw; exact opW.loadV rfl (hS.ld1 (by first | exact .here | exact .there (.here) | exact .there (.there (.here)) | exact .there (.there (.there (.here))) | exact .there (.there (.there (.there (.here)))) | exact .there (.there (.there (.there (.there (.here))))) | exact .there (.there (.there (.there (.there (.there (.here)))))) | exact .there (.there (.there (.there (.there (.there (.there (.here))))))) | exact .there (.there (.there (.there (.there (.there (.there (.there (.here)))))))) | exact .there (.there (.there (.there (.there (.there (.there (.there (.there (.here))))))))) | exact .there (.there (.there (.there (.there (.there (.there (.there (.there (.there (.here)))))))))) | exact .there (.there (.there (.there (.there (.there (.there (.there (.there (.there (.there (.here))))))))))) | exact .there (.there (.there (.there (.there (.there (.there (.there (.there (.there (.there (.there (.here))))))))))))) (Account.at_space l[k])) ⟨rfl, rfl⟩)) ?_
                  refine ML.look rfl rfl rfl (fun w hw => (by have hS := hS1.bel hw; exact opW.neq rfl rfl ⟨rfl, rfl⟩)) ?_
                  refine ML.look rfl rfl rfl (fun w hw => (by have hS := hS1.bel hw; exact opW.moveB rfl ⟨rfl, rfl⟩)) ?_
                  refine ML.lookG  _ 167 rfl rfl rfl rfl rfl rfl (fun hg168 w hw => (by have hS := hS1.bel hw; exact opW.fieldAddrB rfl ⟨rfl, rfl⟩)) ?_
                  refine ML.lookG  _ 167 rfl rfl rfl rfl rfl rfl (fun hg169 w hw => (by have hS := hS1.bel hw; exact opW.loadV (by first | exact gv_of rfl hg169 | rfl) (hS.ld1 (by first | exact .here | exact .there (.here) | exact .there (.there (.here)) | exact .there (.there (.there (.here))) | exact .there (.there (.there (.there (.here)))) | exact .there (.there (.there (.there (.there (.here))))) | exact .there (.there (.there (.there (.there (.there (.here)))))) | exact .there (.there (.there (.there (.there (.there (.there (.here))))))) | exact .there (.there (.there (.there (.there (.there (.there (.there (.here)))))))) | exact .there (.there (.there (.there (.there (.there (.there (.there (.there (.here))))))))) | exact .there (.there (.there (.there (.there (.there (.there (.there (.there (.there (.here)))))))))) | exact .there (.there (.there (.there (.there (.there (.there (.there (.there (.there (.there (.here))))))))))) | exact .there (.there (.there (.there (.there (.there (.there (.there (.there (.there (.there (.there (.here))))))))))))) (Account.at_space l[k])) ⟨rfl, rfl⟩)) ?_
                  refine ML.lookG  _ 167 rfl rfl rfl rfl rfl rfl (fun hg170 w hw => (by have hS := hS1.bel hw; exact opW.neq (by first | exact gv_of rfl hg170 | rfl) rfl ⟨rfl, rfl⟩)) ?_
                  refine ML.lookG  _ 167 rfl rfl rfl rfl rfl rfl (fun hg171 w hw => (by have hS := hS1.bel hw; exact opW.moveB (by first | exact gv_of rfl hg171 | rfl) ⟨rfl, rfl⟩)) ?_
                  refine ML.lookG2 _  _ 171 rfl rfl rfl rfl rfl rfl (fun hg172 w hw => (by have hS := hS1.bel hw; exact opW.moveV (v := v23) rfl ⟨rfl, rfl⟩)) ?_
                  refine ML.lookG2 _  _ 171 rfl rfl rfl rfl rfl rfl (fun hg173 w hw => (by have hS := hS1.bel hw; exact opW.moveI rfl ⟨rfl, rfl⟩)) ?_
                  refine ML.lookG2 _  _ 171 rfl rfl rfl rfl rfl rfl (fun hg174 w hw => (by have hS := hS1.bel hw; exact opW.idxV (k := .i64) (i := (k : Int)) (v := v23) (by first | exact gv_of rfl hg174 | rfl) (hS.sl (v := v23) (xs := out) (by first | exact .here | exact .there (.here) | exact .there (.there (.here)) | exact .there (.there (.there (.here))) | exact .there (.there (.there (.there (.here)))) | exact .there (.there (.there (.there (.there (.here))))) | exact .there (.there (.there (.there (.there (.there (.here)))))) | exact .there (.there (.there (.there (.there (.there (.there (.here))))))) | exact .there (.there (.there (.there (.there (.there (.there (.there (.here)))))))) | exact .there (.there (.there (.there (.there (.there (.there (.there (.there (.here))))))))) | exact .there (.there (.there (.there (.there (.there (.there (.there (.there (.there (.here)))))))))) | exact .there (.there (.there (.there (.there (.there (.there (.there (.there (.there (.there (.here))))))))))) | exact .there (.there (.there (.there (.there (.there (.there (.there (.there (.there (.there (.there (.here)))))))))))))) (by first | exact gv_of rfl hg174 | rfl) (by omega) ⟨rfl, rfl⟩)) ?_
                  refine ML.lookG2 _  _ 171 rfl rfl rfl rfl rfl rfl (fun hg175 w hw => (by have hS := hS1.bel hw; exact opW.fieldAddr (by first | exact gv_of rfl hg175 | rfl) ((hS.sl (v := v23) (xs := out) (by first | exact .here | exact .there (.here) | exact .there (.there (.here)) | exact .there (.there (.there (.here))) | exact .there (.there (.there (.there (.here)))) | exact .there (.there (.there (.there (.there (.here))))) | exact .there (.there (.there (.there (.there (.there (.here)))))) | exact .there (.there (.there (.there (.there (.there (.there (.here))))))) | exact .there (.there (.there (.there (.there (.there (.there (.there (.here)))))))) | exact .there (.there (.there (.there (.there (.there (.there (.there (.there (.here))))))))) | exact .there (.there (.there (.there (.there (.there (.there (.there (.there (.there (.here)))))))))) | exact .there (.there (.there (.there (.there (.there (.there (.there (.there (.there (.there (.here))))))))))) | exact .there (.there (.there (.there (.there (.there (.there (.there (.there (.there (.there (.there (.here)))))))))))))).isP hko) ⟨rfl, rfl⟩)) ?_
                  refine ML.lookG2 _  _ 171 rfl rfl rfl rfl rfl rfl (fun hg176 w hw => (by have hS := hS1.bel hw; exact opW.loadV (by first | exact gv_of rfl hg176 | rfl) (Ld.pt1 ((hS.sl (v := v23) (xs := out) (by first | exact .here | exact .there (.here) | exact .there (.there (.here)) | exact .there (.there (.there (.here))) | exact .there (.there (.there (.there (.here)))) | exact .there (.there (.there (.there (.there (.here))))) | exact .there (.there (.there (.there (.there (.there (.here)))))) | exact .there (.there (.there (.there (.there (.there (.there (.here))))))) | exact .there (.there (.there (.there (.there (.there (.there (.there (.here)))))))) | exact .there (.there (.there (.there (.there (.there (.there (.there (.there (.here))))))))) | exact .there (.there (.there (.there (.there (.there (.there (.there (.there (.there (.here)))))))))) | exact .there (.there (.there (.there (.there (.there (.there (.there (.there (.there (.there (.here))))))))))) | exact .there (.there (.there (.there (.there (.there (.there (.there (.there (.there (.there (.there (.here)))))))))))))).isPt hko) 33 (Account.at_space _)) ⟨rfl, rfl⟩)) ?_
                  refine ML.lookG2 _  _ 171 rfl rfl rfl rfl rfl rfl (fun hg177 w hw => (by have hS := hS1.bel hw; exact opW.moveI rfl ⟨rfl, rfl⟩)) ?_
                  refine ML.lookG2 _  _ 171 rfl rfl rfl rfl rfl rfl (fun hg178 w hw => (by have hS := hS1.bel hw; exact opW.neq (by first | exact gv_of rfl hg178 | rfl) (by first | exact gv_of rfl hg178 | rfl) ⟨rfl, rfl⟩)) ?_
                  refine ML.lookG  _ 167 rfl rfl rfl rfl rfl rfl (fun hg179 w hw => (by have hS := hS1.bel hw; exact opW.pickOr (by first | exact gv_of rfl hg179 | rfl) rfl (by first | exact gv_and rfl hg179 | rfl) ⟨rfl, rfl⟩)) ?_
                  refine ML.look rfl rfl rfl (fun w hw => (by have hS := hS1.bel hw; exact opW.pickAnd rfl (by first | rfl) rfl ⟨rfl, rfl⟩)) ?_
                  refine ML.nil ?_
                  refine thenQ_n (hK27 _ _ ?_)
                  refine WC.cond _ rfl (fun hc7 => ?_) (fun hc7 => ?_)
                  ·
                    have hr7 := hc7
                    try simp only [decide_eq_true_eq, decide_eq_false_iff_not, Bool.and_eq_true, Bool.or_eq_true, Bool.and_eq_false_iff, Bool.or_eq_false_iff, Bool.not_eq_true', Bool.not_eq_false', Int.not_lt, Int.not_le] at hc7
                    exfalso
                    simp only [Bool.and_eq_true, Bool.or_eq_true, Bool.not_eq_true', decide_eq_false_iff_not, decide_eq_true_eq] at hr7
                    obtain ⟨d1, d2⟩ := hr7
                    obtain ⟨g1, g2⟩ := c4 (by omega)
                    omega
                  ·
                    have hr7 := hc7
                    try simp only [decide_eq_true_eq, decide_eq_false_iff_not, Bool.and_eq_true, Bool.or_eq_true, Bool.and_eq_false_iff, Bool.or_eq_false_iff, Bool.not_eq_true', Bool.not_eq_false', Int.not_lt, Int.not_le] at hc7
                    refine WC.skip ?_
                    refine blockQ_n ?_
                    refine thenQ_n (hK18 _ _ ?_)
                    refine WC.region ?_
                    refine WL.op rfl (opW.moveI rfl ?_)
                    refine WL.op rfl (opW.add rfl rfl (wrap_i64 (by omega)) ?_)
                    refine WL.op rfl (opW.assignI rfl ?_)
                    refine WL.nil ?_
                    refine thenQ_n ?_
                    exact ⟨l.length - (k + 1), by omega, k + 1, ⟨rfl, rfl, rfl, congrArg (Value.int .i64) hcnt.symm, congrArg (Value.int .i64) (by omega), trivial⟩, hS.sub (by repeat (first | with_reducible exact List.nil_sublist _ | with_reducible exact List.Sublist.refl _ | with_reducible refine List.Sublist.cons₂ _ ?_ | with_reducible refine List.Sublist.cons _ ?_)), by omega, rfl⟩
          ·
            have hr3 := hc3
            try simp only [decide_eq_true_eq, decide_eq_false_iff_not, Bool.and_eq_true, Bool.or_eq_true, Bool.and_eq_false_iff, Bool.or_eq_false_iff, Bool.not_eq_true', Bool.not_eq_false', Int.not_lt, Int.not_le] at hc3
            have hkk : k = l.length := by omega
            have hct := count_two (p := chB out l) (a := a) (b := b) (fun i hi => by
              unfold chB at hi
              simp only [decide_eq_true_eq] at hi
              by_cases hil : i < l.length
              · exact hco.rest i (by omega) hil (fun e => hi (by rw [List.getElem?_eq_getElem (by omega), List.getElem?_eq_getElem hil, e]))
              · exact absurd (by rw [List.getElem?_eq_none (by omega), List.getElem?_eq_none (by omega)]) hi) k
            have hc2 : (List.range k).countP (chB out l) ≤ 2 := by
              have m1 : (if a < k then 1 else (0 : Nat)) ≤ 1 := by split <;> omega
              have m2 : (if b < k then 1 else (0 : Nat)) ≤ 1 := by split <;> omega
              omega
            refine WC.exit ?_
            refine thenQ_e ?_
            refine thenQ_e ?_
            refine blockQ_hit ?_
            refine thenQ_n (hK14 _ _ ?_)
            refine WC.seq (fun K28 hK28 => ?_)
            refine WC.region ?_
            refine WL.op rfl (opW.moveI rfl ?_)
            refine WL.op rfl (opW.boolT (decide_eq_true (by omega)) (opW.leq rfl rfl ⟨rfl, rfl⟩) ?_)
            refine WL.op rfl (opW.moveB rfl ?_)
            refine WL.gT 183 rfl rfl rfl (WL.op rfl (opW.call (lives14 _) rfl ?_))
            rintro _ w ⟨rfl, hw⟩; replace hS := hS.bel hw
            refine WL.op rfl (opW.pickT rfl rfl ?_)
            refine WL.op rfl (opW.assignB rfl ?_)
            refine WL.nil ?_
            refine thenQ_n (hK28 _ _ ?_)
            refine WC.ret ?_
            refine bodyQ_ret (.tmpB rfl .nil) ?_
            exact ⟨rfl, hS.old⟩

end Go.Fer
