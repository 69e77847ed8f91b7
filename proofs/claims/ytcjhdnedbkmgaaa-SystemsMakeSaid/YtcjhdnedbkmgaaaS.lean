/- SystemsMove -/
import Derived.Test.YtcjhdnedbkmgaaaN
import Derived.Test.YtcjhdnedbkmgaaaP
set_option linter.all false
namespace Go.Fer
open Go Go.Proofs Go.RowKit

def mvX (n : Nat) : Ask := ⟨2, n, 0, vz 32⟩
theorem tak01 : takF 2 bothL [0, 1] = 0 := by simp [takF, need, lacks, bothL, roleErrs, roleErr]
theorem tak00 : takF 2 bothL [0, 0] = 0 := by simp [takF, need, lacks, bothL, roleErrs, roleErr]
theorem tak10 : takF 2 bothL [1, 0] = 0 := by simp [takF, need, lacks, bothL, roleErrs, roleErr]
def mvTo (f t : Account) (n : Nat) : List Account := [{ f with coins := f.coins - n }, { t with coins := t.coins + n }]
theorem mvTo_0 (f t : Account) (n : Nat) : 0 < (mvTo f t n).length := by show 0 < 2; decide
theorem mvTo_1 (f t : Account) (n : Nat) : 1 < (mvTo f t n).length := by show 1 < 2; decide
def mvRes (e : Int) (l : List Account) : List Account := if e ≠ 0 then [] else l
theorem do_mv01 (f t : Account) {n : Nat} (h : n < 18446744073709551616) : doF [f, t] bothL [0, 1] (mvD n) = (mvE (mvX n) f t false, 0, mvRes (mvE (mvX n) f t false) (mvTo f t n)) := by
  rw [doF_x rfl (askF_mv h)]
  unfold doX
  rw [if_neg (fun e => e tak01)]
  show (if actE (mvX n) f t false ≠ 0 then (actE (mvX n) f t false, 0, []) else (0, 0, actL (mvX n) [f, t] 0 1 f t)) = _
  rw [actE2 rfl, actL2 rfl]
  unfold mvRes mvL
  by_cases he : mvE (mvX n) f t false = 0
  · have hn : ¬ (mvE (mvX n) f t false ≠ 0) := fun e => e he
    rw [if_neg hn, if_neg hn, if_neg (by decide), he]; rfl
  · rw [if_pos he, if_pos he]
theorem do_mv00 (f t : Account) {n : Nat} (h : n < 18446744073709551616) : doF [f, t] bothL [0, 0] (mvD n) = (mvE (mvX n) f f true, 0, mvRes (mvE (mvX n) f f true) [f, t]) := by
  rw [doF_x rfl (askF_mv h)]
  unfold doX
  rw [if_neg (fun e => e tak00)]
  show (if actE (mvX n) f f true ≠ 0 then (actE (mvX n) f f true, 0, []) else (0, 0, actL (mvX n) [f, t] 0 0 f f)) = _
  rw [actE2 rfl, actL2 rfl]
  unfold mvRes mvL
  by_cases he : mvE (mvX n) f f true = 0
  · have hn : ¬ (mvE (mvX n) f f true ≠ 0) := fun e => e he
    rw [if_neg hn, if_neg hn, if_pos rfl, he]
  · rw [if_pos he, if_pos he]
theorem do_mv10 (f t : Account) {n : Nat} (h : n < 18446744073709551616) : doF [f, t] bothL [1, 0] (mvD n) = (mvE (mvX n) t f false, 0, mvRes (mvE (mvX n) t f false) [{ f with coins := f.coins + n }, { t with coins := t.coins - n }]) := by
  rw [doF_x rfl (askF_mv h)]
  unfold doX
  rw [if_neg (fun e => e tak10)]
  show (if actE (mvX n) t f false ≠ 0 then (actE (mvX n) t f false, 0, []) else (0, 0, actL (mvX n) [f, t] 1 0 t f)) = _
  rw [actE2 rfl, actL2 rfl]
  unfold mvRes mvL
  by_cases he : mvE (mvX n) t f false = 0
  · have hn : ¬ (mvE (mvX n) t f false ≠ 0) := fun e => e he
    rw [if_neg hn, if_neg hn, if_neg (by decide), he]; rfl
  · rw [if_pos he, if_pos he]
/-- what is wrong with who pays -/
def payE (f : Account) (n : Nat) : Int := mvE (mvX n) f f true
theorem payE_16 {f : Account} {n : Nat} (h : plainB f = false) : (16 : Int) = payE f n := by unfold payE mvE; rw [if_pos (by rw [h]; rfl)]
theorem payE_17 {f : Account} {n : Nat} (h : plainB f = true) (hc : (f.coins : Int) < (n : Int)) : (17 : Int) = payE f n := by unfold payE mvE; rw [if_neg (by rw [h]; decide), if_pos (show (f.coins : Int) < ((mvX n).coins : Int) from hc)]
theorem payE_0 {f : Account} {n : Nat} (h : plainB f = true) (hc : ¬ (f.coins : Int) < (n : Int)) : (0 : Int) = payE f n := by unfold payE mvE; rw [if_neg (by rw [h]; decide), if_neg (show ¬ (f.coins : Int) < ((mvX n).coins : Int) from hc), if_pos rfl]
theorem mvE_split (f t : Account) (n : Nat) : mvE (mvX n) f t false = if payE f n = 0 ∧ ((18446744073709551615 - n : Nat) : Int) < (t.coins : Int) then 18 else payE f n := by
  cases hp : plainB f with
  | false =>
    rw [← payE_16 hp, if_neg (by intro h; exact absurd h.1 (by decide))]
    unfold mvE; rw [if_pos (by rw [hp]; rfl)]
  | true =>
    by_cases hc : (f.coins : Int) < (n : Int)
    · rw [← payE_17 hp hc, if_neg (by intro h; exact absurd h.1 (by decide))]
      unfold mvE; rw [if_neg (by rw [hp]; decide), if_pos (show (f.coins : Int) < ((mvX n).coins : Int) from hc)]
    · rw [← payE_0 hp hc]
      unfold mvE; rw [if_neg (by rw [hp]; decide), if_neg (show ¬ (f.coins : Int) < ((mvX n).coins : Int) from hc), if_neg (by decide)]
      by_cases ho : ((18446744073709551615 - n : Nat) : Int) < (t.coins : Int)
      · rw [if_pos (show ((18446744073709551615 - (mvX n).coins : Nat) : Int) < (t.coins : Int) from ho), if_pos ⟨rfl, ho⟩]
      · rw [if_neg (show ¬ ((18446744073709551615 - (mvX n).coins : Nat) : Int) < (t.coins : Int) from ho), if_neg (fun h => ho h.2)]
theorem payE_ok {f : Account} {n : Nat} (h : payE f n = 0) : n ≤ f.coins := (mvE_ok h).2.2.1
/-- what was moved is moved back -/
theorem back_ok {f t : Account} {n : Nat} (h : mvE (mvX n) f t false = 0) (hf : okW f) (hn : n < 18446744073709551616) : mvE (mvX n) { t with coins := t.coins + n } { f with coins := f.coins - n } false = if plainB t = true then 0 else 16 := by
  obtain ⟨_, _, h3, h4⟩ := mvE_ok h
  have h4 := h4 rfl
  have h3 : n ≤ f.coins := h3
  have h4 : t.coins ≤ 18446744073709551615 - n := h4
  have hfc := hf.1
  have hp : plainB { t with coins := t.coins + n } = plainB t := rfl
  unfold mvE
  rw [hp]
  cases plainB t with
  | false => rfl
  | true =>
    rw [if_neg (by decide), if_neg (by simp only [mvX]; omega), if_neg (by decide), if_neg (by simp only [mvX]; omega)]
    rfl
theorem back_list {f t : Account} {n : Nat} (h : n ≤ f.coins) : ([{ ({ f with coins := f.coins - n } : Account) with coins := (f.coins - n) + n }, { ({ t with coins := t.coins + n } : Account) with coins := (t.coins + n) - n }] : List Account) = [f, t] := by
  have e1 : f.coins - n + n = f.coins := by omega
  have e2 : t.coins + n - n = t.coins := by omega
  simp only [e1, e2]

set_option maxHeartbeats 2000000 in
theorem move_law (w0 : World) (ac tc : Account) (n : Nat) (hfw : okW ac) (htw : okW tc) (hn : n < 18446744073709551616) : Ret Try.prog 5 #[.agg (Enc.enc ac), .agg (Enc.enc tc), .int .u64 ((n : Nat) : Int)] w0 (fun r w' => r = .bool true ∧ Bel w0 w') := by
  refine Ret.enter (args := [.agg (Enc.enc ac), .agg (Enc.enc tc), .int .u64 ((n : Nat) : Int)]) Try.func5 rfl Try.ntmps5 Try.results5 rfl ?_
  have hS := St.start w0
  have hw2 : ∀ y ∈ ([ac, tc] : List Account), okW y := by
    intro y hy
    simp only [List.mem_cons, List.not_mem_nil, or_false] at hy
    rcases hy with rfl | rfl
    · exact hfw
    · exact htw
  have hbl : bothL.length = 2 := rfl
  refine WC.seq (fun K1 hK1 => ?_)
  refine WC.region ?_
  refine WL.op rfl (opW.boxA hS rfl ?_)
  intro b3 w _ hS
  refine WL.op rfl (opW.boxA hS rfl ?_)
  intro b4 w _ hS
  refine WL.op rfl (opW.assignB rfl ?_)
  refine WL.nil ?_
  refine thenQ_n (hK1 _ _ ?_)
  refine WC.seq (fun K2 hK2 => ?_)
  refine WC.region ?_
  refine WL.op rfl (opW.loadV rfl (hS.ldA (cs := Enc.enc ac) (by first | exact .h0 | exact .h1 | exact .h2 | exact .h3 | exact .h4 | exact .h5 | exact .h6 | exact .h7 | exact .h8 | exact .h9 | exact .h10 | exact .h11 | exact .h12 | exact .h13 | exact .h14) (Enc.size_eq _)) ?_)
  refine WL.op rfl (opW.loadV rfl (hS.ldA (cs := Enc.enc tc) (by first | exact .h0 | exact .h1 | exact .h2 | exact .h3 | exact .h4 | exact .h5 | exact .h6 | exact .h7 | exact .h8 | exact .h9 | exact .h10 | exact .h11 | exact .h12 | exact .h13 | exact .h14) (Enc.size_eq _)) ?_)
  refine WL.op rfl (opW.buildSl hS (([ac, tc] : List Account)) [.agg (Enc.enc ac), .agg (Enc.enc tc)] rfl rfl rfl rfl (by decide) ?_)
  intro b23 w hw hS
  refine WL.op rfl (opW.assignV (v := (.slice (some ⟨b23, 0, none⟩) 2 2)) rfl ?_)
  replace hS : St w0 [ownE (.slice (some ⟨b23, 0, none⟩) 2 2) 48 ([ac, tc] : List Account), blkE b4 (Enc.enc tc) 48, blkE b3 (Enc.enc ac) 48] _ := hS
  refine WL.nil ?_
  refine thenQ_n (hK2 _ _ ?_)
  refine WC.seq (fun K3 hK3 => ?_)
  refine WC.region ?_
  refine WL.op rfl (opW.moveV (v := (.slice (some ⟨b23, 0, none⟩) 2 2)) rfl ?_)
  refine WL.op rfl (opW.call (both14 _) rfl ?_)
  rintro v26 w ⟨hn26, hw⟩; replace hS := hS.newOwn hw hn26.1 hn26.2
  refine WL.op rfl (opW.moveI rfl ?_)
  refine WL.op rfl (opW.call (move14 _ n hn) rfl ?_)
  rintro _ w ⟨va1, vd1, rfl, hN1⟩
  replace hS := hS.merge hN1
  simp only [List.cons_append, List.nil_append] at hS
  refine WL.op rfl (opW.call (do_ok _ (.slice (some ⟨b23, 0, none⟩) 2 2) v26 (⟨1, va1, vd1⟩ : Instr) ([ac, tc] : List Account) bothL [0, 1] (mvD n) (hS.sl (v := (.slice (some ⟨b23, 0, none⟩) 2 2)) (xs := ([ac, tc] : List Account)) (by first | exact .h0 | exact .h1 | exact .h2 | exact .h3 | exact .h4 | exact .h5 | exact .h6 | exact .h7 | exact .h8 | exact .h9 | exact .h10 | exact .h11 | exact .h12 | exact .h13 | exact .h14)) (hS.sl (v := v26) (xs := bothL) (by first | exact .h0 | exact .h1 | exact .h2 | exact .h3 | exact .h4 | exact .h5 | exact .h6 | exact .h7 | exact .h8 | exact .h9 | exact .h10 | exact .h11 | exact .h12 | exact .h13 | exact .h14)) (hS.sl (v := va1.v) (xs := ([0, 1] : List UInt8)) (by first | exact .h0 | exact .h1 | exact .h2 | exact .h3 | exact .h4 | exact .h5 | exact .h6 | exact .h7 | exact .h8 | exact .h9 | exact .h10 | exact .h11 | exact .h12 | exact .h13 | exact .h14)) (hS.sl (v := vd1.v) (xs := mvD n) (by first | exact .h0 | exact .h1 | exact .h2 | exact .h3 | exact .h4 | exact .h5 | exact .h6 | exact .h7 | exact .h8 | exact .h9 | exact .h10 | exact .h11 | exact .h12 | exact .h13 | exact .h14)) (Nat.le_of_ble_eq_true rfl) hw2) rfl ?_)
  rintro _ w ⟨v29, rfl, hn29, hw⟩
  rw [do_mv01 ac tc hn] at hn29 ⊢
  replace hS := hS.newOwn hw hn29.1 hn29.2
  refine WL.op rfl (opW.moveV (v := .tuple #[v29, .int .u64 ((0 : Nat) : Int), .int .i64 (mvE (mvX n) ac tc false)]) rfl ?_)
  refine WL.op rfl (opW.extract rfl rfl ?_)
  refine WL.op rfl (opW.extract rfl rfl ?_)
  refine WL.op rfl (opW.extract rfl rfl ?_)
  refine WL.op rfl (opW.assignV rfl ?_)
  refine WL.op rfl (opW.assignI rfl ?_)
  refine WL.op rfl (opW.assignI rfl ?_)
  refine WL.nil ?_
  refine thenQ_n (hK3 _ _ ?_)
  refine WC.seq (fun K4 hK4 => ?_)
  refine WC.region ?_
  refine WL.op rfl (opW.assignI rfl ?_)
  refine WL.nil ?_
  refine thenQ_n (hK4 _ _ ?_)
  refine WC.mid (fun f w =>  Fits [(2, .int .u64 ((n : Nat) : Int)), (3, .pointer (some ⟨b3, 0, none⟩)), (4, .pointer (some ⟨b4, 0, none⟩)), (7, (.slice (some ⟨b23, 0, none⟩) 2 2)), (8, v29), (10, .int .i64 (mvE (mvX n) ac tc false)), (11, .int .i64 (payE ac n))] f ∧ St w0 [ownE v29 48 (mvRes (mvE (mvX n) ac tc false) (mvTo ac tc n)), ownE (.slice (some ⟨b23, 0, none⟩) 2 2) 48 ([ac, tc] : List Account), blkE b4 (Enc.enc tc) 48, blkE b3 (Enc.enc ac) 48] w) ?_ ?_
  ·
    refine WC.seq (fun K5 hK5 => ?_)
    refine WC.region ?_
    refine WL.op rfl (opW.fieldAddrB rfl ?_)
    refine WL.op rfl (opW.loadV rfl (hS.ldF (cs := Enc.enc ac) (o := 1) (by first | exact .h0 | exact .h1 | exact .h2 | exact .h3 | exact .h4 | exact .h5 | exact .h6 | exact .h7 | exact .h8 | exact .h9 | exact .h10 | exact .h11 | exact .h12 | exact .h13 | exact .h14) (Account.ex_owner _) (by rw [Enc.size_eq]; decide)) ?_)
    refine WL.op rfl (opW.buildVec (k := sysK) (by first | rfl | (simp only [sysK, az, kk, enc_vset, enc_vz]; rfl)) (by intro p hp; first | (exfalso; simp at hp; done) | (simp only [List.map_cons, List.map_nil, List.mem_cons, List.not_mem_nil, or_false] at hp; rcases hp with rfl | rfl | rfl | rfl <;> exact ⟨by simp, rfl⟩)) ?_)
    refine WL.op rfl (opW.neqE rfl rfl ?_)
    refine WL.op rfl (opW.moveB rfl ?_)
    refine WL.gd _ 37 _ rfl rfl rfl rfl (fun hg38 => opW.fieldAddrB rfl ⟨rfl, Bel.refl _⟩) (fun w hw => ?_)
    replace hS := hS.bel hw
    refine WL.gd _ 37 _ rfl rfl rfl rfl (fun hg39 => opW.loadV (by first | exact gv_of rfl hg39 | rfl) (hS.ld1 (by first | exact .h0 | exact .h1 | exact .h2 | exact .h3 | exact .h4 | exact .h5 | exact .h6 | exact .h7 | exact .h8 | exact .h9 | exact .h10 | exact .h11 | exact .h12 | exact .h13 | exact .h14) (Account.at_space ac)) ⟨rfl, Bel.refl _⟩) (fun w hw => ?_)
    replace hS := hS.bel hw
    refine WL.gd _ 37 _ rfl rfl rfl rfl (fun hg40 => opW.neq (by first | exact gv_of rfl hg40 | rfl) rfl ⟨rfl, Bel.refl _⟩) (fun w hw => ?_)
    replace hS := hS.bel hw
    refine WL.op rfl (opW.pickOr rfl rfl (by first | rfl) ?_)
    refine WL.nil ?_
    refine thenQ_n (hK5 _ _ ?_)
    refine WC.cond _ rfl (fun hc0 => ?_) (fun hc0 => ?_)
    ·
      have hr0 := hc0
      try simp only [decide_eq_true_eq, decide_eq_false_iff_not, Bool.and_eq_true, Bool.or_eq_true, Bool.and_eq_false_iff, Bool.or_eq_false_iff, Bool.not_eq_true', Bool.not_eq_false', Int.not_lt, Int.not_le] at hc0
      have hpl : plainB ac = false := by unfold plainB; simp only [Bool.or_eq_true, Bool.not_eq_true', decide_eq_false_iff_not] at hr0; rw [Bool.and_eq_false_iff, decide_eq_false_iff_not, decide_eq_false_iff_not]; exact hr0
      have hW := payE_16 (n := n) hpl
      refine WC.region ?_
      refine WL.op rfl (opW.assignI rfl ?_)
      refine WL.nil ?_
      refine thenQ_n ?_
      exact ⟨⟨rfl, rfl, rfl, rfl, rfl, rfl, congrArg (Value.int .i64) hW, trivial⟩, hS.sub (by repeat (first | with_reducible exact List.nil_sublist _ | with_reducible exact List.Sublist.refl _ | with_reducible refine List.Sublist.cons₂ _ ?_ | with_reducible refine List.Sublist.cons _ ?_))⟩
    ·
      have hr0 := hc0
      try simp only [decide_eq_true_eq, decide_eq_false_iff_not, Bool.and_eq_true, Bool.or_eq_true, Bool.and_eq_false_iff, Bool.or_eq_false_iff, Bool.not_eq_true', Bool.not_eq_false', Int.not_lt, Int.not_le] at hc0
      have hpl : plainB ac = true := by unfold plainB; simp only [Bool.or_eq_false_iff, Bool.not_eq_false', decide_eq_true_eq] at hr0; rw [Bool.and_eq_true, decide_eq_true_eq, decide_eq_true_eq]; exact hr0
      refine WC.seq (fun K6 hK6 => ?_)
      refine WC.region ?_
      refine WL.op rfl (opW.fieldAddrB rfl ?_)
      refine WL.op rfl (opW.loadV rfl (hS.ld1 (by first | exact .h0 | exact .h1 | exact .h2 | exact .h3 | exact .h4 | exact .h5 | exact .h6 | exact .h7 | exact .h8 | exact .h9 | exact .h10 | exact .h11 | exact .h12 | exact .h13 | exact .h14) (Account.at_coins ac)) ?_)
      refine WL.op rfl (opW.moveI rfl ?_)
      refine WL.op rfl (opW.lss rfl rfl ?_)
      refine WL.nil ?_
      refine thenQ_n (hK6 _ _ ?_)
      refine WC.cond _ rfl (fun hc1 => ?_) (fun hc1 => ?_)
      ·
        have hr1 := hc1
        try simp only [decide_eq_true_eq, decide_eq_false_iff_not, Bool.and_eq_true, Bool.or_eq_true, Bool.and_eq_false_iff, Bool.or_eq_false_iff, Bool.not_eq_true', Bool.not_eq_false', Int.not_lt, Int.not_le] at hc1
        have hW := payE_17 hpl hc1
        refine WC.region ?_
        refine WL.op rfl (opW.assignI rfl ?_)
        refine WL.nil ?_
        refine thenQ_n ?_
        exact ⟨⟨rfl, rfl, rfl, rfl, rfl, rfl, congrArg (Value.int .i64) hW, trivial⟩, hS.sub (by repeat (first | with_reducible exact List.nil_sublist _ | with_reducible exact List.Sublist.refl _ | with_reducible refine List.Sublist.cons₂ _ ?_ | with_reducible refine List.Sublist.cons _ ?_))⟩
      ·
        have hr1 := hc1
        try simp only [decide_eq_true_eq, decide_eq_false_iff_not, Bool.and_eq_true, Bool.or_eq_true, Bool.and_eq_false_iff, Bool.or_eq_false_iff, Bool.not_eq_true', Bool.not_eq_false', Int.not_lt, Int.not_le] at hc1
        have hW := payE_0 (n := n) hpl (by omega)
        refine WC.skip ?_
        refine thenQ_n ?_
        exact ⟨⟨rfl, rfl, rfl, rfl, rfl, rfl, congrArg (Value.int .i64) hW, trivial⟩, hS.sub (by repeat (first | with_reducible exact List.nil_sublist _ | with_reducible exact List.Sublist.refl _ | with_reducible refine List.Sublist.cons₂ _ ?_ | with_reducible refine List.Sublist.cons _ ?_))⟩
  ·
    rintro f w ⟨hfit, hS⟩
    refine WC.fits _ hfit (fun g => ?_)
    clear hfit
    refine WC.seq (fun K7 hK7 => ?_)
    refine WC.region ?_
    refine WL.op rfl (opW.moveI rfl ?_)
    refine WL.op rfl (opW.call (move14 _ n hn) rfl ?_)
    rintro _ w ⟨va2, vd2, rfl, hN2⟩
    replace hS := hS.merge hN2
    simp only [List.cons_append, List.nil_append] at hS
    refine WL.op rfl (opW.allocA hS ?_)
    intro b12 w _ hS
    refine WL.op0 (opW.storeE hS rfl rfl (by first | exact .h0 | exact .h1 | exact .h2 | exact .h3 | exact .h4 | exact .h5 | exact .h6 | exact .h7 | exact .h8 | exact .h9 | exact .h10 | exact .h11 | exact .h12 | exact .h13 | exact .h14) (by first | rfl | exact Enc.size_eq _) ?_)
    intro w hS; replace hS := hS _ (by first | exact .h0 | exact .h1 | exact .h2 | exact .h3 | exact .h4 | exact .h5 | exact .h6 | exact .h7 | exact .h8 | exact .h9 | exact .h10 | exact .h11 | exact .h12 | exact .h13 | exact .h14)
    refine WL.nil ?_
    refine thenQ_n (hK7 _ _ ?_)
    refine WC.seq (fun K8 hK8 => ?_)
    refine WC.region ?_
    refine WL.op rfl (opW.fieldAddrB rfl ?_)
    refine WL.op rfl (opW.loadV rfl (hS.ld1 (by first | exact .h0 | exact .h1 | exact .h2 | exact .h3 | exact .h4 | exact .h5 | exact .h6 | exact .h7 | exact .h8 | exact .h9 | exact .h10 | exact .h11 | exact .h12 | exact .h13 | exact .h14) (Instr.at_accounts (⟨1, va2, vd2⟩ : Instr))) ?_)
    refine WL.op rfl (opW.idxV (k := .i64) (i := (1 : Int)) (v := va2.v) rfl (hS.sl (v := va2.v) (xs := ([0, 1] : List UInt8)) (by first | exact .h0 | exact .h1 | exact .h2 | exact .h3 | exact .h4 | exact .h5 | exact .h6 | exact .h7 | exact .h8 | exact .h9 | exact .h10 | exact .h11 | exact .h12 | exact .h13 | exact .h14)) rfl ⟨by decide, by decide⟩ ?_)
    refine WL.op0 (opW.storeOwn (v := va2.v) (u := .int .u8 0) (sz := 1) (xs := ([0, 1] : List UInt8)) (i := 1) (off := 0) (y' := 0) hS (by first | exact .h0 | exact .h1 | exact .h2 | exact .h3 | exact .h4 | exact .h5 | exact .h6 | exact .h7 | exact .h8 | exact .h9 | exact .h10 | exact .h11 | exact .h12 | exact .h13 | exact .h14) (by decide) (ptrAdd0 va2.v 1 (Enc.sz UInt8)).symm rfl rfl (by decide) (one_int _ _) rfl ?_)
    intro w hS; replace hS := hS _ (by first | exact .h0 | exact .h1 | exact .h2 | exact .h3 | exact .h4 | exact .h5 | exact .h6 | exact .h7 | exact .h8 | exact .h9 | exact .h10 | exact .h11 | exact .h12 | exact .h13 | exact .h14)
    rw [show ([0, 1] : List UInt8).set 1 0 = [0, 0] from rfl] at hS
    refine WL.nil ?_
    refine thenQ_n (hK8 _ _ ?_)
    refine WC.seq (fun K9 hK9 => ?_)
    refine WC.draw 11 (.look 0 (.look 2 (.one 1 (.one 3 (.look 4 (.look 5 (.look 6 (.look 7 (.look 8 (.look 9 (.look 10 .nil))))))))))) (by kernel_rfl) (fun _ _ _ h => h) (fun w1 hw1 => ?_)
    replace hS := hS.bel hw1
    have hS1 := hS
    have hT := St.start w1
    refine ML.look rfl rfl rfl (fun w hw => (by have hS := hS1.bel hw; exact opW.moveV (v := (.slice (some ⟨b23, 0, none⟩) 2 2)) rfl ⟨rfl, rfl⟩)) ?_
    refine ML.look rfl rfl rfl (fun w hw => (by have hS := hS1.bel hw; exact opW.loadV rfl (hS.ldA (cs := Enc.enc (⟨1, va2, vd2⟩ : Instr)) (by first | exact .h0 | exact .h1 | exact .h2 | exact .h3 | exact .h4 | exact .h5 | exact .h6 | exact .h7 | exact .h8 | exact .h9 | exact .h10 | exact .h11 | exact .h12 | exact .h13 | exact .h14) (Enc.size_eq _)) ⟨rfl, rfl⟩)) ?_
    refine ML.one rfl rfl rfl (opW.call (both14 _) rfl ?_)
    rintro v53 w ⟨hn53, hw⟩; replace hT := hT.newOwn hw hn53.1 hn53.2
    refine ⟨hT.old, ?_⟩
    have hS := hS1.merge hT
    try simp only [List.cons_append, List.nil_append] at hS
    refine ML.one rfl rfl rfl (opW.call (do_ok _ (.slice (some ⟨b23, 0, none⟩) 2 2) v53 (⟨1, va2, vd2⟩ : Instr) ([ac, tc] : List Account) bothL [0, 0] (mvD n) (hS.sl (v := (.slice (some ⟨b23, 0, none⟩) 2 2)) (xs := ([ac, tc] : List Account)) (by first | exact .h0 | exact .h1 | exact .h2 | exact .h3 | exact .h4 | exact .h5 | exact .h6 | exact .h7 | exact .h8 | exact .h9 | exact .h10 | exact .h11 | exact .h12 | exact .h13 | exact .h14)) (hS.sl (v := v53) (xs := bothL) (by first | exact .h0 | exact .h1 | exact .h2 | exact .h3 | exact .h4 | exact .h5 | exact .h6 | exact .h7 | exact .h8 | exact .h9 | exact .h10 | exact .h11 | exact .h12 | exact .h13 | exact .h14)) (hS.sl (v := va2.v) (xs := ([0, 0] : List UInt8)) (by first | exact .h0 | exact .h1 | exact .h2 | exact .h3 | exact .h4 | exact .h5 | exact .h6 | exact .h7 | exact .h8 | exact .h9 | exact .h10 | exact .h11 | exact .h12 | exact .h13 | exact .h14)) (hS.sl (v := vd2.v) (xs := mvD n) (by first | exact .h0 | exact .h1 | exact .h2 | exact .h3 | exact .h4 | exact .h5 | exact .h6 | exact .h7 | exact .h8 | exact .h9 | exact .h10 | exact .h11 | exact .h12 | exact .h13 | exact .h14)) (Nat.le_of_ble_eq_true rfl) hw2) rfl ?_)
    rintro _ w ⟨v55, rfl, hn55, hw⟩
    rw [do_mv00 ac tc hn] at hn55 ⊢
    rw [show mvE (mvX n) ac ac true = payE ac n from rfl] at hn55 ⊢
    replace hT := hT.newOwn hw hn55.1 hn55.2
    refine ⟨hT.old, ?_⟩
    have hS := hS1.merge hT
    try simp only [List.cons_append, List.nil_append] at hS
    refine ML.look rfl rfl rfl (fun w hw => (by have hS := hS1.bel hw; exact opW.moveV (v := .tuple #[v55, .int .u64 ((0 : Nat) : Int), .int .i64 (payE ac n)]) rfl ⟨rfl, rfl⟩)) ?_
    refine ML.look rfl rfl rfl (fun w hw => (by have hS := hS1.bel hw; exact opW.extract rfl rfl ⟨rfl, rfl⟩)) ?_
    refine ML.look rfl rfl rfl (fun w hw => (by have hS := hS1.bel hw; exact opW.extract rfl rfl ⟨rfl, rfl⟩)) ?_
    refine ML.look rfl rfl rfl (fun w hw => (by have hS := hS1.bel hw; exact opW.extract rfl rfl ⟨rfl, rfl⟩)) ?_
    refine ML.look rfl rfl rfl (fun w hw => (by have hS := hS1.bel hw; exact opW.assignV rfl ⟨rfl, rfl⟩)) ?_
    refine ML.look rfl rfl rfl (fun w hw => (by have hS := hS1.bel hw; exact opW.assignI rfl ⟨rfl, rfl⟩)) ?_
    refine ML.look rfl rfl rfl (fun w hw => (by have hS := hS1.bel hw; exact opW.assignI rfl ⟨rfl, rfl⟩)) ?_
    refine ML.nil ?_
    refine thenQ_n (hK9 _ _ ?_)
    refine WC.seq (fun K10 hK10 => ?_)
    refine WC.seq (fun K11 hK11 => ?_)
    refine WC.region ?_
    refine WL.op rfl (opW.moveI rfl ?_)
    refine WL.op rfl (opW.moveI rfl ?_)
    refine WL.op rfl (opW.boolF (by simp) (opW.neq rfl rfl ⟨rfl, rfl⟩) ?_)
    refine WL.op rfl (opW.moveB rfl ?_)
    refine WL.gT 62 rfl rfl rfl (WL.op rfl (opW.moveI rfl ?_))
    refine WL.gT 62 rfl rfl rfl (WL.op rfl (opW.eql rfl rfl ?_))
    refine WL.gT 62 rfl rfl rfl (WL.op rfl (opW.moveB rfl ?_))
    cases hcs65 : (decide ((payE ac n) = 0)) with
    | true =>
      refine WL.gT 65 rfl rfl rfl (WL.op rfl (opW.moveV rfl ?_))
      refine WL.gT 65 rfl rfl rfl (WL.op rfl (opW.moveV (v := (.slice (some ⟨b23, 0, none⟩) 2 2)) rfl ?_))
      refine WL.gT 65 rfl rfl rfl (WL.op rfl (opW.call (sameAccounts_ok _ v55 (.slice (some ⟨b23, 0, none⟩) 2 2) (mvRes (payE ac n) ([ac, tc] : List Account)) ([ac, tc] : List Account) (hS.sl (v := v55) (xs := mvRes (payE ac n) ([ac, tc] : List Account)) (by first | exact .h0 | exact .h1 | exact .h2 | exact .h3 | exact .h4 | exact .h5 | exact .h6 | exact .h7 | exact .h8 | exact .h9 | exact .h10 | exact .h11 | exact .h12 | exact .h13 | exact .h14)) (hS.sl (v := (.slice (some ⟨b23, 0, none⟩) 2 2)) (xs := ([ac, tc] : List Account)) (by first | exact .h0 | exact .h1 | exact .h2 | exact .h3 | exact .h4 | exact .h5 | exact .h6 | exact .h7 | exact .h8 | exact .h9 | exact .h10 | exact .h11 | exact .h12 | exact .h13 | exact .h14))) rfl ?_))
      rintro _ w ⟨rfl, hw⟩; replace hS := hS.bel hw
      rw [show decide (mvRes (payE ac n) ([ac, tc] : List Account) = ([ac, tc] : List Account)) = true from by unfold mvRes; rw [if_neg (fun e => e (of_decide_eq_true hcs65))]; simp]
      refine WL.gT 65 rfl rfl rfl (WL.op rfl (opW.not rfl ?_))
      refine WL.gT 62 rfl rfl rfl (WL.op rfl (opW.pickT rfl rfl ?_))
      refine WL.op rfl (opW.pickT rfl rfl ?_)
      refine WL.nil ?_
      refine thenQ_n (hK11 _ _ ?_)
      refine WC.cond _ rfl (fun hc2 => ?_) (fun hc2 => ?_)
      ·
        have hr2 := hc2
        try simp only [decide_eq_true_eq, decide_eq_false_iff_not, Bool.and_eq_true, Bool.or_eq_true, Bool.and_eq_false_iff, Bool.or_eq_false_iff, Bool.not_eq_true', Bool.not_eq_false', Int.not_lt, Int.not_le] at hc2
        exact absurd hr2 (by decide)
      ·
        have hr2 := hc2
        try simp only [decide_eq_true_eq, decide_eq_false_iff_not, Bool.and_eq_true, Bool.or_eq_true, Bool.and_eq_false_iff, Bool.or_eq_false_iff, Bool.not_eq_true', Bool.not_eq_false', Int.not_lt, Int.not_le] at hc2
        refine WC.skip ?_
        refine thenQ_n (hK10 _ _ ?_)
        refine WC.mid (fun f w =>  Fits [(2, .int .u64 ((n : Nat) : Int)), (3, .pointer (some ⟨b3, 0, none⟩)), (4, .pointer (some ⟨b4, 0, none⟩)), (7, (.slice (some ⟨b23, 0, none⟩) 2 2)), (8, v29), (10, .int .i64 (mvE (mvX n) ac tc false)), (11, .int .i64 (mvE (mvX n) ac tc false))] f ∧ St w0 [ownE v29 48 (mvRes (mvE (mvX n) ac tc false) (mvTo ac tc n)), ownE (.slice (some ⟨b23, 0, none⟩) 2 2) 48 ([ac, tc] : List Account), blkE b4 (Enc.enc tc) 48, blkE b3 (Enc.enc ac) 48] w) ?_ ?_
        ·
          refine WC.seq (fun K12 hK12 => ?_)
          refine WC.region ?_
          refine WL.op rfl (opW.moveI rfl ?_)
          refine WL.op rfl (opW.eql rfl rfl ?_)
          refine WL.op rfl (opW.moveB rfl ?_)
          refine WL.gd _ 74 _ rfl rfl rfl rfl (fun hg75 => opW.fieldAddrB rfl ⟨rfl, Bel.refl _⟩) (fun w hw => ?_)
          replace hS := hS.bel hw
          refine WL.gd _ 74 _ rfl rfl rfl rfl (fun hg76 => opW.loadV (by first | exact gv_of rfl hg76 | rfl) (hS.ld1 (by first | exact .h0 | exact .h1 | exact .h2 | exact .h3 | exact .h4 | exact .h5 | exact .h6 | exact .h7 | exact .h8 | exact .h9 | exact .h10 | exact .h11 | exact .h12 | exact .h13 | exact .h14) (Account.at_coins tc)) ⟨rfl, Bel.refl _⟩) (fun w hw => ?_)
          replace hS := hS.bel hw
          refine WL.gd _ 74 _ rfl rfl rfl rfl (fun hg77 => opW.moveI rfl ⟨rfl, Bel.refl _⟩) (fun w hw => ?_)
          replace hS := hS.bel hw
          refine WL.gd _ 74 _ rfl rfl rfl rfl (fun hg78 => opW.sub rfl (by first | exact gv_of rfl hg78 | rfl) (sub_max _ hn) ⟨rfl, Bel.refl _⟩) (fun w hw => ?_)
          replace hS := hS.bel hw
          refine WL.gd _ 74 _ rfl rfl rfl rfl (fun hg79 => opW.gtr (by first | exact gv_of rfl hg79 | rfl) (by first | exact gv_of rfl hg79 | rfl) ⟨rfl, Bel.refl _⟩) (fun w hw => ?_)
          replace hS := hS.bel hw
          refine WL.op rfl (opW.pickAnd rfl (by first | rfl) rfl ?_)
          refine WL.nil ?_
          refine thenQ_n (hK12 _ _ ?_)
          refine WC.cond _ rfl (fun hc3 => ?_) (fun hc3 => ?_)
          ·
            have hr3 := hc3
            try simp only [decide_eq_true_eq, decide_eq_false_iff_not, Bool.and_eq_true, Bool.or_eq_true, Bool.and_eq_false_iff, Bool.or_eq_false_iff, Bool.not_eq_true', Bool.not_eq_false', Int.not_lt, Int.not_le] at hc3
            have hW1 : (18 : Int) = (mvE (mvX n) ac tc false) := by
              simp only [Bool.and_eq_true, decide_eq_true_eq] at hr3
              rw [mvE_split, if_pos hr3]
            refine WC.region ?_
            refine WL.op rfl (opW.assignI rfl ?_)
            refine WL.nil ?_
            refine thenQ_n ?_
            exact ⟨⟨rfl, rfl, rfl, rfl, rfl, rfl, congrArg (Value.int .i64) hW1, trivial⟩, (hS.pick (e := ownE v29 48 (mvRes (mvE (mvX n) ac tc false) (mvTo ac tc n))) (by first | exact .h0 | exact .h1 | exact .h2 | exact .h3 | exact .h4 | exact .h5 | exact .h6 | exact .h7 | exact .h8 | exact .h9 | exact .h10 | exact .h11 | exact .h12 | exact .h13 | exact .h14)).sub (by repeat (first | with_reducible exact List.nil_sublist _ | with_reducible exact List.Sublist.refl _ | with_reducible refine List.Sublist.cons₂ _ ?_ | with_reducible refine List.Sublist.cons _ ?_))⟩
          ·
            have hr3 := hc3
            try simp only [decide_eq_true_eq, decide_eq_false_iff_not, Bool.and_eq_true, Bool.or_eq_true, Bool.and_eq_false_iff, Bool.or_eq_false_iff, Bool.not_eq_true', Bool.not_eq_false', Int.not_lt, Int.not_le] at hc3
            have hW1 : (payE ac n) = (mvE (mvX n) ac tc false) := by
              simp only [Bool.and_eq_false_iff, decide_eq_false_iff_not] at hr3
              rw [mvE_split, if_neg (fun h => by rcases hr3 with h1 | h1; exact h1 h.1; exact h1 h.2)]
            refine WC.skip ?_
            refine thenQ_n ?_
            exact ⟨⟨rfl, rfl, rfl, rfl, rfl, rfl, congrArg (Value.int .i64) hW1, trivial⟩, (hS.pick (e := ownE v29 48 (mvRes (mvE (mvX n) ac tc false) (mvTo ac tc n))) (by first | exact .h0 | exact .h1 | exact .h2 | exact .h3 | exact .h4 | exact .h5 | exact .h6 | exact .h7 | exact .h8 | exact .h9 | exact .h10 | exact .h11 | exact .h12 | exact .h13 | exact .h14)).sub (by repeat (first | with_reducible exact List.nil_sublist _ | with_reducible exact List.Sublist.refl _ | with_reducible refine List.Sublist.cons₂ _ ?_ | with_reducible refine List.Sublist.cons _ ?_))⟩
        ·
          rintro f w ⟨hfit, hS⟩
          refine WC.fits _ hfit (fun g => ?_)
          clear hfit
          refine WC.seq (fun K13 hK13 => ?_)
          refine WC.seq (fun K14 hK14 => ?_)
          refine WC.region ?_
          refine WL.op rfl (opW.moveI rfl ?_)
          refine WL.op rfl (opW.moveI rfl ?_)
          refine WL.op rfl (opW.boolF (by simp) (opW.neq rfl rfl ⟨rfl, rfl⟩) ?_)
          refine WL.op rfl (opW.moveB rfl ?_)
          refine WL.gT 84 rfl rfl rfl (WL.op rfl (opW.moveI rfl ?_))
          refine WL.gT 84 rfl rfl rfl (WL.op rfl (opW.neq rfl rfl ?_))
          refine WL.op rfl (opW.pickT rfl rfl ?_)
          refine WL.nil ?_
          refine thenQ_n (hK14 _ _ ?_)
          refine WC.cond _ rfl (fun hc4 => ?_) (fun hc4 => ?_)
          ·
            have hr4 := hc4
            try simp only [decide_eq_true_eq, decide_eq_false_iff_not, Bool.and_eq_true, Bool.or_eq_true, Bool.and_eq_false_iff, Bool.or_eq_false_iff, Bool.not_eq_true', Bool.not_eq_false', Int.not_lt, Int.not_le] at hc4
            refine WC.seq (fun K15 hK15 => ?_)
            refine WC.region ?_
            refine WL.op rfl (opW.moveI rfl ?_)
            refine WL.op rfl (opW.moveI rfl ?_)
            refine WL.op rfl (opW.boolT (by simp) (opW.eql rfl rfl ⟨rfl, rfl⟩) ?_)
            refine WL.op rfl (opW.moveB rfl ?_)
            refine WL.gT 91 rfl rfl rfl (WL.op rfl (opW.call (lives14 _) rfl ?_))
            rintro _ w ⟨rfl, hw⟩; replace hS := hS.bel hw
            refine WL.op rfl (opW.pickT rfl rfl ?_)
            refine WL.op rfl (opW.assignB rfl ?_)
            refine WL.nil ?_
            refine thenQ_n (hK15 _ _ ?_)
            refine WC.ret ?_
            refine thenQ_r ?_
            refine bodyQ_ret (.tmpB rfl .nil) ?_
            exact ⟨rfl, hS.old⟩
          ·
            have hr4 := hc4
            try simp only [decide_eq_true_eq, decide_eq_false_iff_not, Bool.and_eq_true, Bool.or_eq_true, Bool.and_eq_false_iff, Bool.or_eq_false_iff, Bool.not_eq_true', Bool.not_eq_false', Int.not_lt, Int.not_le] at hc4
            have hz : (mvE (mvX n) ac tc false) = 0 := by simpa using hr4
            have hz0 : (payE ac n) = 0 := by
              rw [mvE_split] at hz
              split at hz
              · cases hz
              · exact hz
            have hpn := payE_ok hz0
            have hbk := back_ok hz hfw hn
            have hov := (mvE_ok hz).2.2.2 rfl
            have hov : tc.coins ≤ 18446744073709551615 - n := hov
            have hfc := hfw.1
            have e1r : (mvRes (mvE (mvX n) ac tc false) (mvTo ac tc n)) = mvTo ac tc n := by unfold mvRes; rw [if_neg (fun e => e hz)]
            rw [e1r] at hS
            rw [hz]
            refine WC.skip ?_
            refine thenQ_n (hK13 _ _ ?_)
            refine WC.seq (fun K16 hK16 => ?_)
            refine WC.seq (fun K17 hK17 => ?_)
            refine WC.draw 43 (.look 0 (.look 1 (.look 2 (.look 3 (.look 4 (.look 5 (.look 6 (.look 7 (.look 8 (.look 9 (.look 10 (.look 11 (.look 12 (.look 13 (.look 14 (.look 15 (.look 16 (.look 17 (.look 18 (.look 19 (.look 20 (.look 21 (.look 22 (.look 23 (.look 24 (.look 25 (.look 26 (.look 27 (.look 28 (.look 29 (.look 30 (.look 31 (.look 32 (.look 33 (.look 34 (.look 35 (.look 36 (.look 37 (.look 38 (.look 39 (.look 40 (.look 41 (.look 42 .nil))))))))))))))))))))))))))))))))))))))))))) (by kernel_rfl) (fun _ _ _ h => h) (fun w1 hw1 => ?_)
            replace hS := hS.bel hw1
            have hS1 := hS
            have hT := St.start w1
            refine ML.look rfl rfl rfl (fun w hw => (by have hS := hS1.bel hw; exact opW.moveV (v := v29) rfl ⟨rfl, rfl⟩)) ?_
            refine ML.look rfl rfl rfl (fun w hw => (by have hS := hS1.bel hw; exact opW.lenV rfl ((hS.sl (v := v29) (xs := (mvTo ac tc n)) (by first | exact .h0 | exact .h1 | exact .h2 | exact .h3 | exact .h4 | exact .h5 | exact .h6 | exact .h7 | exact .h8 | exact .h9 | exact .h10 | exact .h11 | exact .h12 | exact .h13 | exact .h14))) ⟨rfl, rfl⟩)) ?_
            refine ML.look rfl rfl rfl (fun w hw => (by have hS := hS1.bel hw; exact opW.boolF (by rfl) (opW.neq rfl rfl ⟨rfl, rfl⟩) ⟨rfl, rfl⟩)) ?_
            refine ML.look rfl rfl rfl (fun w hw => (by have hS := hS1.bel hw; exact opW.moveB rfl ⟨rfl, rfl⟩)) ?_
            refine ML.lookT 97 rfl rfl rfl rfl rfl rfl (fun w hw => (by have hS := hS1.bel hw; exact opW.moveV (v := v29) rfl ⟨rfl, rfl⟩)) ?_
            refine ML.lookT 97 rfl rfl rfl rfl rfl rfl (fun w hw => (by have hS := hS1.bel hw; exact opW.idxV (k := .i64) (i := (0 : Int)) (v := v29) rfl (hS.sl (v := v29) (xs := (mvTo ac tc n)) (by first | exact .h0 | exact .h1 | exact .h2 | exact .h3 | exact .h4 | exact .h5 | exact .h6 | exact .h7 | exact .h8 | exact .h9 | exact .h10 | exact .h11 | exact .h12 | exact .h13 | exact .h14)) rfl ⟨by decide, by show (0 : Int) < 2; decide⟩ ⟨rfl, rfl⟩)) ?_
            refine ML.lookT 97 rfl rfl rfl rfl rfl rfl (fun w hw => (by have hS := hS1.bel hw; exact opW.fieldAddr rfl ((hS.sl (v := v29) (xs := (mvTo ac tc n)) (by first | exact .h0 | exact .h1 | exact .h2 | exact .h3 | exact .h4 | exact .h5 | exact .h6 | exact .h7 | exact .h8 | exact .h9 | exact .h10 | exact .h11 | exact .h12 | exact .h13 | exact .h14)).isP (i := 0) (mvTo_0 ac tc n)) ⟨rfl, rfl⟩)) ?_
            refine ML.lookT 97 rfl rfl rfl rfl rfl rfl (fun w hw => (by have hS := hS1.bel hw; exact opW.loadV rfl (Ld.pt1 ((hS.sl (v := v29) (xs := (mvTo ac tc n)) (by first | exact .h0 | exact .h1 | exact .h2 | exact .h3 | exact .h4 | exact .h5 | exact .h6 | exact .h7 | exact .h8 | exact .h9 | exact .h10 | exact .h11 | exact .h12 | exact .h13 | exact .h14)).isPt (i := 0) (mvTo_0 ac tc n)) 0 (Account.at_coins ({ ac with coins := ac.coins - n } : Account))) ⟨rfl, rfl⟩)) ?_
            refine ML.lookT 97 rfl rfl rfl rfl rfl rfl (fun w hw => (by have hS := hS1.bel hw; exact opW.fieldAddrB rfl ⟨rfl, rfl⟩)) ?_
            refine ML.lookT 97 rfl rfl rfl rfl rfl rfl (fun w hw => (by have hS := hS1.bel hw; exact opW.loadV rfl (hS.ld1 (by first | exact .h0 | exact .h1 | exact .h2 | exact .h3 | exact .h4 | exact .h5 | exact .h6 | exact .h7 | exact .h8 | exact .h9 | exact .h10 | exact .h11 | exact .h12 | exact .h13 | exact .h14) (Account.at_coins ac)) ⟨rfl, rfl⟩)) ?_
            refine ML.lookT 97 rfl rfl rfl rfl rfl rfl (fun w hw => (by have hS := hS1.bel hw; exact opW.moveI rfl ⟨rfl, rfl⟩)) ?_
            refine ML.lookT 97 rfl rfl rfl rfl rfl rfl (fun w hw => (by have hS := hS1.bel hw; exact opW.sub rfl rfl (nsub hpn hfc) ⟨rfl, rfl⟩)) ?_
            refine ML.lookT 97 rfl rfl rfl rfl rfl rfl (fun w hw => (by have hS := hS1.bel hw; exact opW.boolF (by simp) (opW.neq rfl rfl ⟨rfl, rfl⟩) ⟨rfl, rfl⟩)) ?_
            refine ML.look rfl rfl rfl (fun w hw => (by have hS := hS1.bel hw; exact opW.pickT rfl rfl ⟨rfl, rfl⟩)) ?_
            refine ML.look rfl rfl rfl (fun w hw => (by have hS := hS1.bel hw; exact opW.moveB rfl ⟨rfl, rfl⟩)) ?_
            refine ML.lookT 108 rfl rfl rfl rfl rfl rfl (fun w hw => (by have hS := hS1.bel hw; exact opW.moveV (v := v29) rfl ⟨rfl, rfl⟩)) ?_
            refine ML.lookT 108 rfl rfl rfl rfl rfl rfl (fun w hw => (by have hS := hS1.bel hw; exact opW.idxV (k := .i64) (i := (1 : Int)) (v := v29) rfl (hS.sl (v := v29) (xs := (mvTo ac tc n)) (by first | exact .h0 | exact .h1 | exact .h2 | exact .h3 | exact .h4 | exact .h5 | exact .h6 | exact .h7 | exact .h8 | exact .h9 | exact .h10 | exact .h11 | exact .h12 | exact .h13 | exact .h14)) rfl ⟨by decide, by show (1 : Int) < 2; decide⟩ ⟨rfl, rfl⟩)) ?_
            refine ML.lookT 108 rfl rfl rfl rfl rfl rfl (fun w hw => (by have hS := hS1.bel hw; exact opW.fieldAddr rfl ((hS.sl (v := v29) (xs := (mvTo ac tc n)) (by first | exact .h0 | exact .h1 | exact .h2 | exact .h3 | exact .h4 | exact .h5 | exact .h6 | exact .h7 | exact .h8 | exact .h9 | exact .h10 | exact .h11 | exact .h12 | exact .h13 | exact .h14)).isP (i := 1) (mvTo_1 ac tc n)) ⟨rfl, rfl⟩)) ?_
            refine ML.lookT 108 rfl rfl rfl rfl rfl rfl (fun w hw => (by have hS := hS1.bel hw; exact opW.loadV rfl (Ld.pt1 ((hS.sl (v := v29) (xs := (mvTo ac tc n)) (by first | exact .h0 | exact .h1 | exact .h2 | exact .h3 | exact .h4 | exact .h5 | exact .h6 | exact .h7 | exact .h8 | exact .h9 | exact .h10 | exact .h11 | exact .h12 | exact .h13 | exact .h14)).isPt (i := 1) (mvTo_1 ac tc n)) 0 (Account.at_coins ({ tc with coins := tc.coins + n } : Account))) ⟨rfl, rfl⟩)) ?_
            refine ML.lookT 108 rfl rfl rfl rfl rfl rfl (fun w hw => (by have hS := hS1.bel hw; exact opW.fieldAddrB rfl ⟨rfl, rfl⟩)) ?_
            refine ML.lookT 108 rfl rfl rfl rfl rfl rfl (fun w hw => (by have hS := hS1.bel hw; exact opW.loadV rfl (hS.ld1 (by first | exact .h0 | exact .h1 | exact .h2 | exact .h3 | exact .h4 | exact .h5 | exact .h6 | exact .h7 | exact .h8 | exact .h9 | exact .h10 | exact .h11 | exact .h12 | exact .h13 | exact .h14) (Account.at_coins tc)) ⟨rfl, rfl⟩)) ?_
            refine ML.lookT 108 rfl rfl rfl rfl rfl rfl (fun w hw => (by have hS := hS1.bel hw; exact opW.moveI rfl ⟨rfl, rfl⟩)) ?_
            refine ML.lookT 108 rfl rfl rfl rfl rfl rfl (fun w hw => (by have hS := hS1.bel hw; exact opW.add rfl rfl (nadd (by omega)) ⟨rfl, rfl⟩)) ?_
            refine ML.lookT 108 rfl rfl rfl rfl rfl rfl (fun w hw => (by have hS := hS1.bel hw; exact opW.boolF (by simp) (opW.neq rfl rfl ⟨rfl, rfl⟩) ⟨rfl, rfl⟩)) ?_
            refine ML.look rfl rfl rfl (fun w hw => (by have hS := hS1.bel hw; exact opW.pickT rfl rfl ⟨rfl, rfl⟩)) ?_
            refine ML.look rfl rfl rfl (fun w hw => (by have hS := hS1.bel hw; exact opW.moveB rfl ⟨rfl, rfl⟩)) ?_
            refine ML.lookT 119 rfl rfl rfl rfl rfl rfl (fun w hw => (by have hS := hS1.bel hw; exact opW.moveV (v := v29) rfl ⟨rfl, rfl⟩)) ?_
            refine ML.lookT 119 rfl rfl rfl rfl rfl rfl (fun w hw => (by have hS := hS1.bel hw; exact opW.idxV (k := .i64) (i := (1 : Int)) (v := v29) rfl (hS.sl (v := v29) (xs := (mvTo ac tc n)) (by first | exact .h0 | exact .h1 | exact .h2 | exact .h3 | exact .h4 | exact .h5 | exact .h6 | exact .h7 | exact .h8 | exact .h9 | exact .h10 | exact .h11 | exact .h12 | exact .h13 | exact .h14)) rfl ⟨by decide, by show (1 : Int) < 2; decide⟩ ⟨rfl, rfl⟩)) ?_
            refine ML.lookT 119 rfl rfl rfl rfl rfl rfl (fun w hw => (by have hS := hS1.bel hw; exact opW.fieldAddr rfl ((hS.sl (v := v29) (xs := (mvTo ac tc n)) (by first | exact .h0 | exact .h1 | exact .h2 | exact .h3 | exact .h4 | exact .h5 | exact .h6 | exact .h7 | exact .h8 | exact .h9 | exact .h10 | exact .h11 | exact .h12 | exact .h13 | exact .h14)).isP (i := 1) (mvTo_1 ac tc n)) ⟨rfl, rfl⟩)) ?_
            refine ML.lookT 119 rfl rfl rfl rfl rfl rfl (fun w hw => (by have hS := hS1.bel hw; exact opW.loadV rfl (Ld.ptA ((hS.sl (v := v29) (xs := (mvTo ac tc n)) (by first | exact .h0 | exact .h1 | exact .h2 | exact .h3 | exact .h4 | exact .h5 | exact .h6 | exact .h7 | exact .h8 | exact .h9 | exact .h10 | exact .h11 | exact .h12 | exact .h13 | exact .h14)).isPt (i := 1) (mvTo_1 ac tc n)) 1 (Account.ex_owner ({ tc with coins := tc.coins + n } : Account)) (by rw [Enc.size_eq]; decide)) ⟨rfl, rfl⟩)) ?_
            refine ML.lookT 119 rfl rfl rfl rfl rfl rfl (fun w hw => (by have hS := hS1.bel hw; exact opW.fieldAddrB rfl ⟨rfl, rfl⟩)) ?_
            refine ML.lookT 119 rfl rfl rfl rfl rfl rfl (fun w hw => (by have hS := hS1.bel hw; exact opW.loadV rfl (hS.ldF (cs := Enc.enc tc) (o := 1) (by first | exact .h0 | exact .h1 | exact .h2 | exact .h3 | exact .h4 | exact .h5 | exact .h6 | exact .h7 | exact .h8 | exact .h9 | exact .h10 | exact .h11 | exact .h12 | exact .h13 | exact .h14) (Account.ex_owner _) (by rw [Enc.size_eq]; decide)) ⟨rfl, rfl⟩)) ?_
            refine ML.lookT 119 rfl rfl rfl rfl rfl rfl (fun w hw => (by have hS := hS1.bel hw; exact opW.boolF (by simp) (opW.neqE rfl rfl ⟨rfl, rfl⟩) ⟨rfl, rfl⟩)) ?_
            refine ML.look rfl rfl rfl (fun w hw => (by have hS := hS1.bel hw; exact opW.pickT rfl rfl ⟨rfl, rfl⟩)) ?_
            refine ML.look rfl rfl rfl (fun w hw => (by have hS := hS1.bel hw; exact opW.moveB rfl ⟨rfl, rfl⟩)) ?_
            refine ML.lookT 128 rfl rfl rfl rfl rfl rfl (fun w hw => (by have hS := hS1.bel hw; exact opW.moveV (v := v29) rfl ⟨rfl, rfl⟩)) ?_
            refine ML.lookT 128 rfl rfl rfl rfl rfl rfl (fun w hw => (by have hS := hS1.bel hw; exact opW.idxV (k := .i64) (i := (1 : Int)) (v := v29) rfl (hS.sl (v := v29) (xs := (mvTo ac tc n)) (by first | exact .h0 | exact .h1 | exact .h2 | exact .h3 | exact .h4 | exact .h5 | exact .h6 | exact .h7 | exact .h8 | exact .h9 | exact .h10 | exact .h11 | exact .h12 | exact .h13 | exact .h14)) rfl ⟨by decide, by show (1 : Int) < 2; decide⟩ ⟨rfl, rfl⟩)) ?_
            refine ML.lookT 128 rfl rfl rfl rfl rfl rfl (fun w hw => (by have hS := hS1.bel hw; exact opW.fieldAddr rfl ((hS.sl (v := v29) (xs := (mvTo ac tc n)) (by first | exact .h0 | exact .h1 | exact .h2 | exact .h3 | exact .h4 | exact .h5 | exact .h6 | exact .h7 | exact .h8 | exact .h9 | exact .h10 | exact .h11 | exact .h12 | exact .h13 | exact .h14)).isP (i := 1) (mvTo_1 ac tc n)) ⟨rfl, rfl⟩)) ?_
            refine ML.lookT 128 rfl rfl rfl rfl rfl rfl (fun w hw => (by have hS := hS1.bel hw; exact opW.loadV rfl (Ld.pt1 ((hS.sl (v := v29) (xs := (mvTo ac tc n)) (by first | exact .h0 | exact .h1 | exact .h2 | exact .h3 | exact .h4 | exact .h5 | exact .h6 | exact .h7 | exact .h8 | exact .h9 | exact .h10 | exact .h11 | exact .h12 | exact .h13 | exact .h14)).isPt (i := 1) (mvTo_1 ac tc n)) 33 (Account.at_space ({ tc with coins := tc.coins + n } : Account))) ⟨rfl, rfl⟩)) ?_
            refine ML.lookT 128 rfl rfl rfl rfl rfl rfl (fun w hw => (by have hS := hS1.bel hw; exact opW.fieldAddrB rfl ⟨rfl, rfl⟩)) ?_
            refine ML.lookT 128 rfl rfl rfl rfl rfl rfl (fun w hw => (by have hS := hS1.bel hw; exact opW.loadV rfl (hS.ld1 (by first | exact .h0 | exact .h1 | exact .h2 | exact .h3 | exact .h4 | exact .h5 | exact .h6 | exact .h7 | exact .h8 | exact .h9 | exact .h10 | exact .h11 | exact .h12 | exact .h13 | exact .h14) (Account.at_space tc)) ⟨rfl, rfl⟩)) ?_
            refine ML.lookT 128 rfl rfl rfl rfl rfl rfl (fun w hw => (by have hS := hS1.bel hw; exact opW.boolF (by simp) (opW.neq rfl rfl ⟨rfl, rfl⟩) ⟨rfl, rfl⟩)) ?_
            refine ML.look rfl rfl rfl (fun w hw => (by have hS := hS1.bel hw; exact opW.pickT rfl rfl ⟨rfl, rfl⟩)) ?_
            refine ML.nil ?_
            refine thenQ_n (hK17 _ _ ?_)
            refine WC.cond _ rfl (fun hc5 => ?_) (fun hc5 => ?_)
            ·
              have hr5 := hc5
              try simp only [decide_eq_true_eq, decide_eq_false_iff_not, Bool.and_eq_true, Bool.or_eq_true, Bool.and_eq_false_iff, Bool.or_eq_false_iff, Bool.not_eq_true', Bool.not_eq_false', Int.not_lt, Int.not_le] at hc5
              simp at hr5
            ·
              have hr5 := hc5
              try simp only [decide_eq_true_eq, decide_eq_false_iff_not, Bool.and_eq_true, Bool.or_eq_true, Bool.and_eq_false_iff, Bool.or_eq_false_iff, Bool.not_eq_true', Bool.not_eq_false', Int.not_lt, Int.not_le] at hc5
              refine WC.skip ?_
              refine thenQ_n (hK16 _ _ ?_)
              refine WC.seq (fun K18 hK18 => ?_)
              refine WC.region ?_
              refine WL.op rfl (opW.moveI rfl ?_)
              refine WL.op rfl (opW.call (move14 _ n hn) rfl ?_)
              rintro _ w ⟨va3, vd3, rfl, hN3⟩
              replace hS := hS.merge hN3
              simp only [List.cons_append, List.nil_append] at hS
              refine WL.op rfl (opW.allocA hS ?_)
              intro b16 w _ hS
              refine WL.op0 (opW.storeE hS rfl rfl (by first | exact .h0 | exact .h1 | exact .h2 | exact .h3 | exact .h4 | exact .h5 | exact .h6 | exact .h7 | exact .h8 | exact .h9 | exact .h10 | exact .h11 | exact .h12 | exact .h13 | exact .h14) (by first | rfl | exact Enc.size_eq _) ?_)
              intro w hS; replace hS := hS _ (by first | exact .h0 | exact .h1 | exact .h2 | exact .h3 | exact .h4 | exact .h5 | exact .h6 | exact .h7 | exact .h8 | exact .h9 | exact .h10 | exact .h11 | exact .h12 | exact .h13 | exact .h14)
              refine WL.nil ?_
              refine thenQ_n (hK18 _ _ ?_)
              refine WC.seq (fun K19 hK19 => ?_)
              refine WC.region ?_
              refine WL.op rfl (opW.buildSl hS (([1, 0] : List UInt8)) [.int .u8 1, .int .u8 0] rfl rfl rfl rfl (by decide) ?_)
              intro b139 w hw hS
              refine WL.op rfl (opW.fieldAddrB rfl ?_)
              refine WL.op0 (opW.storeF (v := .slice (some ⟨b139, 0, none⟩) 2 2) (sz := 1) (cs' := Enc.enc (⟨1, ⟨some ⟨b139, 0, none⟩, 2, 2⟩, vd3⟩ : Instr)) hS rfl rfl (by first | exact .h0 | exact .h1 | exact .h2 | exact .h3 | exact .h4 | exact .h5 | exact .h6 | exact .h7 | exact .h8 | exact .h9 | exact .h10 | exact .h11 | exact .h12 | exact .h13 | exact .h14) rfl (by rw [Enc.size_eq]; decide) (Enc.one (α := SlV) ⟨some ⟨b139, 0, none⟩, 2, 2⟩) (Instr.set_accounts (⟨1, va3, vd3⟩ : Instr) ⟨some ⟨b139, 0, none⟩, 2, 2⟩) ?_)
              intro w hS; replace hS := hS _ (by first | exact .h0 | exact .h1 | exact .h2 | exact .h3 | exact .h4 | exact .h5 | exact .h6 | exact .h7 | exact .h8 | exact .h9 | exact .h10 | exact .h11 | exact .h12 | exact .h13 | exact .h14)
              refine WL.nil ?_
              refine thenQ_n (hK19 _ _ ?_)
              refine WC.seq (fun K20 hK20 => ?_)
              refine WC.draw 11 (.look 0 (.look 2 (.one 1 (.one 3 (.look 4 (.look 5 (.look 6 (.look 7 (.look 8 (.look 9 (.look 10 .nil))))))))))) (by kernel_rfl) (fun _ _ _ h => h) (fun w1 hw1 => ?_)
              replace hS := hS.bel hw1
              have hS1 := hS
              have hT := St.start w1
              have hwm : ∀ y ∈ mvTo ac tc n, okW y := by
                intro y hy
                simp only [mvTo, List.mem_cons, List.not_mem_nil, or_false] at hy
                rcases hy with rfl | rfl
                · exact ⟨by simp only; omega, hfw.2⟩
                · exact ⟨by simp only; omega, htw.2⟩
              refine ML.look rfl rfl rfl (fun w hw => (by have hS := hS1.bel hw; exact opW.moveV (v := v29) rfl ⟨rfl, rfl⟩)) ?_
              refine ML.look rfl rfl rfl (fun w hw => (by have hS := hS1.bel hw; exact opW.loadV rfl (hS.ldA (cs := Enc.enc (⟨1, ⟨some ⟨b139, 0, none⟩, 2, 2⟩, vd3⟩ : Instr)) (by first | exact .h0 | exact .h1 | exact .h2 | exact .h3 | exact .h4 | exact .h5 | exact .h6 | exact .h7 | exact .h8 | exact .h9 | exact .h10 | exact .h11 | exact .h12 | exact .h13 | exact .h14) (Enc.size_eq _)) ⟨rfl, rfl⟩)) ?_
              refine ML.one rfl rfl rfl (opW.call (both14 _) rfl ?_)
              rintro v143 w ⟨hn143, hw⟩; replace hT := hT.newOwn hw hn143.1 hn143.2
              refine ⟨hT.old, ?_⟩
              have hS := hS1.merge hT
              try simp only [List.cons_append, List.nil_append] at hS
              refine ML.one rfl rfl rfl (opW.call (do_ok _ v29 v143 (⟨1, ⟨some ⟨b139, 0, none⟩, 2, 2⟩, vd3⟩ : Instr) (mvTo ac tc n) bothL [1, 0] (mvD n) (hS.sl (v := v29) (xs := (mvTo ac tc n)) (by first | exact .h0 | exact .h1 | exact .h2 | exact .h3 | exact .h4 | exact .h5 | exact .h6 | exact .h7 | exact .h8 | exact .h9 | exact .h10 | exact .h11 | exact .h12 | exact .h13 | exact .h14)) (hS.sl (v := v143) (xs := bothL) (by first | exact .h0 | exact .h1 | exact .h2 | exact .h3 | exact .h4 | exact .h5 | exact .h6 | exact .h7 | exact .h8 | exact .h9 | exact .h10 | exact .h11 | exact .h12 | exact .h13 | exact .h14)) (hS.sl (v := (.slice (some ⟨b139, 0, none⟩) 2 2)) (xs := ([1, 0] : List UInt8)) (by first | exact .h0 | exact .h1 | exact .h2 | exact .h3 | exact .h4 | exact .h5 | exact .h6 | exact .h7 | exact .h8 | exact .h9 | exact .h10 | exact .h11 | exact .h12 | exact .h13 | exact .h14)) (hS.sl (v := vd3.v) (xs := mvD n) (by first | exact .h0 | exact .h1 | exact .h2 | exact .h3 | exact .h4 | exact .h5 | exact .h6 | exact .h7 | exact .h8 | exact .h9 | exact .h10 | exact .h11 | exact .h12 | exact .h13 | exact .h14)) (Nat.le_of_ble_eq_true rfl) hwm) rfl ?_)
              rintro _ w ⟨v145, rfl, hn145, hw⟩
              rw [show doF (mvTo ac tc n) bothL [1, 0] (mvD n) = (if plainB tc = true then 0 else 16, 0, mvRes (if plainB tc = true then 0 else 16) ([ac, tc] : List Account)) from by rw [show (mvTo ac tc n) = [({ ac with coins := ac.coins - n } : Account), ({ tc with coins := tc.coins + n } : Account)] from rfl, do_mv10 _ _ hn, hbk]; exact congrArg (fun z => (_, 0, mvRes _ z)) (back_list hpn)] at hn145 ⊢
              replace hT := hT.newOwn hw hn145.1 hn145.2
              refine ⟨hT.old, ?_⟩
              have hS := hS1.merge hT
              try simp only [List.cons_append, List.nil_append] at hS
              refine ML.look rfl rfl rfl (fun w hw => (by have hS := hS1.bel hw; exact opW.moveV (v := .tuple #[v145, .int .u64 ((0 : Nat) : Int), .int .i64 (if plainB tc = true then (0 : Int) else 16)]) rfl ⟨rfl, rfl⟩)) ?_
              refine ML.look rfl rfl rfl (fun w hw => (by have hS := hS1.bel hw; exact opW.extract rfl rfl ⟨rfl, rfl⟩)) ?_
              refine ML.look rfl rfl rfl (fun w hw => (by have hS := hS1.bel hw; exact opW.extract rfl rfl ⟨rfl, rfl⟩)) ?_
              refine ML.look rfl rfl rfl (fun w hw => (by have hS := hS1.bel hw; exact opW.extract rfl rfl ⟨rfl, rfl⟩)) ?_
              refine ML.look rfl rfl rfl (fun w hw => (by have hS := hS1.bel hw; exact opW.assignV rfl ⟨rfl, rfl⟩)) ?_
              refine ML.look rfl rfl rfl (fun w hw => (by have hS := hS1.bel hw; exact opW.assignI rfl ⟨rfl, rfl⟩)) ?_
              refine ML.look rfl rfl rfl (fun w hw => (by have hS := hS1.bel hw; exact opW.assignI rfl ⟨rfl, rfl⟩)) ?_
              refine ML.nil ?_
              refine thenQ_n (hK20 _ _ ?_)
              refine WC.seq (fun K21 hK21 => ?_)
              refine WC.region ?_
              refine WL.op rfl (opW.fieldAddrB rfl ?_)
              refine WL.op rfl (opW.loadV rfl (hS.ldF (cs := Enc.enc tc) (o := 1) (by first | exact .h0 | exact .h1 | exact .h2 | exact .h3 | exact .h4 | exact .h5 | exact .h6 | exact .h7 | exact .h8 | exact .h9 | exact .h10 | exact .h11 | exact .h12 | exact .h13 | exact .h14) (Account.ex_owner _) (by rw [Enc.size_eq]; decide)) ?_)
              refine WL.op rfl (opW.buildVec (k := sysK) (by first | rfl | (simp only [sysK, az, kk, enc_vset, enc_vz]; rfl)) (by intro p hp; first | (exfalso; simp at hp; done) | (simp only [List.map_cons, List.map_nil, List.mem_cons, List.not_mem_nil, or_false] at hp; rcases hp with rfl | rfl | rfl | rfl <;> exact ⟨by simp, rfl⟩)) ?_)
              refine WL.op rfl (opW.eqlE rfl rfl ?_)
              refine WL.op rfl (opW.moveB rfl ?_)
              refine WL.gd _ 153 _ rfl rfl rfl rfl (fun hg154 => opW.fieldAddrB rfl ⟨rfl, Bel.refl _⟩) (fun w hw => ?_)
              replace hS := hS.bel hw
              refine WL.gd _ 153 _ rfl rfl rfl rfl (fun hg155 => opW.loadV (by first | exact gv_of rfl hg155 | rfl) (hS.ld1 (by first | exact .h0 | exact .h1 | exact .h2 | exact .h3 | exact .h4 | exact .h5 | exact .h6 | exact .h7 | exact .h8 | exact .h9 | exact .h10 | exact .h11 | exact .h12 | exact .h13 | exact .h14) (Account.at_space tc)) ⟨rfl, Bel.refl _⟩) (fun w hw => ?_)
              replace hS := hS.bel hw
              refine WL.gd _ 153 _ rfl rfl rfl rfl (fun hg156 => opW.eql (by first | exact gv_of rfl hg156 | rfl) rfl ⟨rfl, Bel.refl _⟩) (fun w hw => ?_)
              replace hS := hS.bel hw
              refine WL.op rfl (opW.pickAnd rfl (by first | rfl) rfl ?_)
              refine WL.op rfl (opW.assignB rfl ?_)
              rw [show (decide (tc.owner = sysK) && decide (((tc.space : Nat) : Int) = 0)) = plainB tc from rfl]
              generalize hpt : plainB tc = pt at hS hbk ⊢
              refine WL.nil ?_
              refine thenQ_n (hK21 _ _ ?_)
              refine WC.seq (fun K22 hK22 => ?_)
              refine WC.region ?_
              refine WL.op rfl (opW.moveI rfl ?_)
              refine WL.op rfl (opW.eql rfl rfl ?_)
              refine WL.op rfl (opW.moveB rfl ?_)
              refine WL.op rfl (opW.boolT (by cases pt <;> rfl) (opW.eqlB rfl rfl ⟨rfl, rfl⟩) ?_)
              refine WL.op rfl (opW.moveB rfl ?_)
              refine WL.gT 162 rfl rfl rfl (WL.op rfl (opW.moveB rfl ?_))
              refine WL.gT 162 rfl rfl rfl (WL.op rfl (opW.not rfl ?_))
              refine WL.gT 162 rfl rfl rfl (WL.op rfl (opW.moveB rfl ?_))
              cases hcs165 : (!pt) with
              | true =>
                refine WL.gF 165 rfl rfl rfl rfl ?_
                refine WL.gF 165 rfl rfl rfl rfl ?_
                refine WL.gF 165 rfl rfl rfl rfl ?_
                refine WL.gT 162 rfl rfl rfl (WL.op rfl (opW.pickT rfl rfl ?_))
                refine WL.op rfl (opW.pickT rfl rfl ?_)
                refine WL.op rfl (opW.moveB rfl ?_)
                refine WL.gT 171 rfl rfl rfl (WL.op rfl (opW.call (lives14 _) rfl ?_))
                rintro _ w ⟨rfl, hw⟩; replace hS := hS.bel hw
                refine WL.op rfl (opW.pickT rfl rfl ?_)
                refine WL.op rfl (opW.assignB rfl ?_)
                refine WL.nil ?_
                refine thenQ_n (hK22 _ _ ?_)
                refine WC.ret ?_
                refine bodyQ_ret (.tmpB rfl .nil) ?_
                exact ⟨rfl, hS.old⟩
              | false =>
                refine WL.gT 165 rfl rfl rfl (WL.op rfl (opW.moveV rfl ?_))
                refine WL.gT 165 rfl rfl rfl (WL.op rfl (opW.moveV (v := (.slice (some ⟨b23, 0, none⟩) 2 2)) rfl ?_))
                refine WL.gT 165 rfl rfl rfl (WL.op rfl (opW.call (sameAccounts_ok _ v145 (.slice (some ⟨b23, 0, none⟩) 2 2) (mvRes (if pt = true then 0 else 16) ([ac, tc] : List Account)) ([ac, tc] : List Account) (hS.sl (v := v145) (xs := mvRes (if pt = true then 0 else 16) ([ac, tc] : List Account)) (by first | exact .h0 | exact .h1 | exact .h2 | exact .h3 | exact .h4 | exact .h5 | exact .h6 | exact .h7 | exact .h8 | exact .h9 | exact .h10 | exact .h11 | exact .h12 | exact .h13 | exact .h14)) (hS.sl (v := (.slice (some ⟨b23, 0, none⟩) 2 2)) (xs := ([ac, tc] : List Account)) (by first | exact .h0 | exact .h1 | exact .h2 | exact .h3 | exact .h4 | exact .h5 | exact .h6 | exact .h7 | exact .h8 | exact .h9 | exact .h10 | exact .h11 | exact .h12 | exact .h13 | exact .h14))) rfl ?_))
                rintro _ w ⟨rfl, hw⟩; replace hS := hS.bel hw
                have hp1 : pt = true := by simpa using hcs165
                rw [show decide (mvRes (if pt = true then 0 else 16) ([ac, tc] : List Account) = ([ac, tc] : List Account)) = true from by rw [if_pos hp1]; unfold mvRes; rw [if_neg (by decide)]; simp]
                refine WL.gT 162 rfl rfl rfl (WL.op rfl (opW.pickT rfl rfl ?_))
                refine WL.op rfl (opW.pickT rfl rfl ?_)
                refine WL.op rfl (opW.moveB rfl ?_)
                refine WL.gT 171 rfl rfl rfl (WL.op rfl (opW.call (lives14 _) rfl ?_))
                rintro _ w ⟨rfl, hw⟩; replace hS := hS.bel hw
                refine WL.op rfl (opW.pickT rfl rfl ?_)
                refine WL.op rfl (opW.assignB rfl ?_)
                refine WL.nil ?_
                refine thenQ_n (hK22 _ _ ?_)
                refine WC.ret ?_
                refine bodyQ_ret (.tmpB rfl .nil) ?_
                exact ⟨rfl, hS.old⟩
    | false =>
      refine WL.gF 65 rfl rfl rfl rfl ?_
      refine WL.gF 65 rfl rfl rfl rfl ?_
      refine WL.gF 65 rfl rfl rfl rfl ?_
      refine WL.gF 65 rfl rfl rfl rfl ?_
      refine WL.gT 62 rfl rfl rfl (WL.op rfl (opW.pickT rfl rfl ?_))
      refine WL.op rfl (opW.pickT rfl rfl ?_)
      refine WL.nil ?_
      refine thenQ_n (hK11 _ _ ?_)
      refine WC.cond _ rfl (fun hc2 => ?_) (fun hc2 => ?_)
      ·
        have hr2 := hc2
        try simp only [decide_eq_true_eq, decide_eq_false_iff_not, Bool.and_eq_true, Bool.or_eq_true, Bool.and_eq_false_iff, Bool.or_eq_false_iff, Bool.not_eq_true', Bool.not_eq_false', Int.not_lt, Int.not_le] at hc2
        exact absurd hr2 (by decide)
      ·
        have hr2 := hc2
        try simp only [decide_eq_true_eq, decide_eq_false_iff_not, Bool.and_eq_true, Bool.or_eq_true, Bool.and_eq_false_iff, Bool.or_eq_false_iff, Bool.not_eq_true', Bool.not_eq_false', Int.not_lt, Int.not_le] at hc2
        refine WC.skip ?_
        refine thenQ_n (hK10 _ _ ?_)
        refine WC.mid (fun f w =>  Fits [(2, .int .u64 ((n : Nat) : Int)), (3, .pointer (some ⟨b3, 0, none⟩)), (4, .pointer (some ⟨b4, 0, none⟩)), (7, (.slice (some ⟨b23, 0, none⟩) 2 2)), (8, v29), (10, .int .i64 (mvE (mvX n) ac tc false)), (11, .int .i64 (mvE (mvX n) ac tc false))] f ∧ St w0 [ownE v29 48 (mvRes (mvE (mvX n) ac tc false) (mvTo ac tc n)), ownE (.slice (some ⟨b23, 0, none⟩) 2 2) 48 ([ac, tc] : List Account), blkE b4 (Enc.enc tc) 48, blkE b3 (Enc.enc ac) 48] w) ?_ ?_
        ·
          refine WC.seq (fun K23 hK23 => ?_)
          refine WC.region ?_
          refine WL.op rfl (opW.moveI rfl ?_)
          refine WL.op rfl (opW.eql rfl rfl ?_)
          refine WL.op rfl (opW.moveB rfl ?_)
          refine WL.gd _ 74 _ rfl rfl rfl rfl (fun hg75 => opW.fieldAddrB rfl ⟨rfl, Bel.refl _⟩) (fun w hw => ?_)
          replace hS := hS.bel hw
          refine WL.gd _ 74 _ rfl rfl rfl rfl (fun hg76 => opW.loadV (by first | exact gv_of rfl hg76 | rfl) (hS.ld1 (by first | exact .h0 | exact .h1 | exact .h2 | exact .h3 | exact .h4 | exact .h5 | exact .h6 | exact .h7 | exact .h8 | exact .h9 | exact .h10 | exact .h11 | exact .h12 | exact .h13 | exact .h14) (Account.at_coins tc)) ⟨rfl, Bel.refl _⟩) (fun w hw => ?_)
          replace hS := hS.bel hw
          refine WL.gd _ 74 _ rfl rfl rfl rfl (fun hg77 => opW.moveI rfl ⟨rfl, Bel.refl _⟩) (fun w hw => ?_)
          replace hS := hS.bel hw
          refine WL.gd _ 74 _ rfl rfl rfl rfl (fun hg78 => opW.sub rfl (by first | exact gv_of rfl hg78 | rfl) (sub_max _ hn) ⟨rfl, Bel.refl _⟩) (fun w hw => ?_)
          replace hS := hS.bel hw
          refine WL.gd _ 74 _ rfl rfl rfl rfl (fun hg79 => opW.gtr (by first | exact gv_of rfl hg79 | rfl) (by first | exact gv_of rfl hg79 | rfl) ⟨rfl, Bel.refl _⟩) (fun w hw => ?_)
          replace hS := hS.bel hw
          refine WL.op rfl (opW.pickAnd rfl (by first | rfl) rfl ?_)
          refine WL.nil ?_
          refine thenQ_n (hK23 _ _ ?_)
          refine WC.cond _ rfl (fun hc3 => ?_) (fun hc3 => ?_)
          ·
            have hr3 := hc3
            try simp only [decide_eq_true_eq, decide_eq_false_iff_not, Bool.and_eq_true, Bool.or_eq_true, Bool.and_eq_false_iff, Bool.or_eq_false_iff, Bool.not_eq_true', Bool.not_eq_false', Int.not_lt, Int.not_le] at hc3
            have hW1 : (18 : Int) = (mvE (mvX n) ac tc false) := by
              simp only [Bool.and_eq_true, decide_eq_true_eq] at hr3
              rw [mvE_split, if_pos hr3]
            refine WC.region ?_
            refine WL.op rfl (opW.assignI rfl ?_)
            refine WL.nil ?_
            refine thenQ_n ?_
            exact ⟨⟨rfl, rfl, rfl, rfl, rfl, rfl, congrArg (Value.int .i64) hW1, trivial⟩, (hS.pick (e := ownE v29 48 (mvRes (mvE (mvX n) ac tc false) (mvTo ac tc n))) (by first | exact .h0 | exact .h1 | exact .h2 | exact .h3 | exact .h4 | exact .h5 | exact .h6 | exact .h7 | exact .h8 | exact .h9 | exact .h10 | exact .h11 | exact .h12 | exact .h13 | exact .h14)).sub (by repeat (first | with_reducible exact List.nil_sublist _ | with_reducible exact List.Sublist.refl _ | with_reducible refine List.Sublist.cons₂ _ ?_ | with_reducible refine List.Sublist.cons _ ?_))⟩
          ·
            have hr3 := hc3
            try simp only [decide_eq_true_eq, decide_eq_false_iff_not, Bool.and_eq_true, Bool.or_eq_true, Bool.and_eq_false_iff, Bool.or_eq_false_iff, Bool.not_eq_true', Bool.not_eq_false', Int.not_lt, Int.not_le] at hc3
            have hW1 : (payE ac n) = (mvE (mvX n) ac tc false) := by
              simp only [Bool.and_eq_false_iff, decide_eq_false_iff_not] at hr3
              rw [mvE_split, if_neg (fun h => by rcases hr3 with h1 | h1; exact h1 h.1; exact h1 h.2)]
            refine WC.skip ?_
            refine thenQ_n ?_
            exact ⟨⟨rfl, rfl, rfl, rfl, rfl, rfl, congrArg (Value.int .i64) hW1, trivial⟩, (hS.pick (e := ownE v29 48 (mvRes (mvE (mvX n) ac tc false) (mvTo ac tc n))) (by first | exact .h0 | exact .h1 | exact .h2 | exact .h3 | exact .h4 | exact .h5 | exact .h6 | exact .h7 | exact .h8 | exact .h9 | exact .h10 | exact .h11 | exact .h12 | exact .h13 | exact .h14)).sub (by repeat (first | with_reducible exact List.nil_sublist _ | with_reducible exact List.Sublist.refl _ | with_reducible refine List.Sublist.cons₂ _ ?_ | with_reducible refine List.Sublist.cons _ ?_))⟩
        ·
          rintro f w ⟨hfit, hS⟩
          refine WC.fits _ hfit (fun g => ?_)
          clear hfit
          refine WC.seq (fun K24 hK24 => ?_)
          refine WC.seq (fun K25 hK25 => ?_)
          refine WC.region ?_
          refine WL.op rfl (opW.moveI rfl ?_)
          refine WL.op rfl (opW.moveI rfl ?_)
          refine WL.op rfl (opW.boolF (by simp) (opW.neq rfl rfl ⟨rfl, rfl⟩) ?_)
          refine WL.op rfl (opW.moveB rfl ?_)
          refine WL.gT 84 rfl rfl rfl (WL.op rfl (opW.moveI rfl ?_))
          refine WL.gT 84 rfl rfl rfl (WL.op rfl (opW.neq rfl rfl ?_))
          refine WL.op rfl (opW.pickT rfl rfl ?_)
          refine WL.nil ?_
          refine thenQ_n (hK25 _ _ ?_)
          refine WC.cond _ rfl (fun hc4 => ?_) (fun hc4 => ?_)
          ·
            have hr4 := hc4
            try simp only [decide_eq_true_eq, decide_eq_false_iff_not, Bool.and_eq_true, Bool.or_eq_true, Bool.and_eq_false_iff, Bool.or_eq_false_iff, Bool.not_eq_true', Bool.not_eq_false', Int.not_lt, Int.not_le] at hc4
            refine WC.seq (fun K26 hK26 => ?_)
            refine WC.region ?_
            refine WL.op rfl (opW.moveI rfl ?_)
            refine WL.op rfl (opW.moveI rfl ?_)
            refine WL.op rfl (opW.boolT (by simp) (opW.eql rfl rfl ⟨rfl, rfl⟩) ?_)
            refine WL.op rfl (opW.moveB rfl ?_)
            refine WL.gT 91 rfl rfl rfl (WL.op rfl (opW.call (lives14 _) rfl ?_))
            rintro _ w ⟨rfl, hw⟩; replace hS := hS.bel hw
            refine WL.op rfl (opW.pickT rfl rfl ?_)
            refine WL.op rfl (opW.assignB rfl ?_)
            refine WL.nil ?_
            refine thenQ_n (hK26 _ _ ?_)
            refine WC.ret ?_
            refine thenQ_r ?_
            refine bodyQ_ret (.tmpB rfl .nil) ?_
            exact ⟨rfl, hS.old⟩
          ·
            have hr4 := hc4
            try simp only [decide_eq_true_eq, decide_eq_false_iff_not, Bool.and_eq_true, Bool.or_eq_true, Bool.and_eq_false_iff, Bool.or_eq_false_iff, Bool.not_eq_true', Bool.not_eq_false', Int.not_lt, Int.not_le] at hc4
            have hz : (mvE (mvX n) ac tc false) = 0 := by simpa using hr4
            have hz0 : (payE ac n) = 0 := by
              rw [mvE_split] at hz
              split at hz
              · cases hz
              · exact hz
            have hpn := payE_ok hz0
            have hbk := back_ok hz hfw hn
            have hov := (mvE_ok hz).2.2.2 rfl
            have hov : tc.coins ≤ 18446744073709551615 - n := hov
            have hfc := hfw.1
            have e1r : (mvRes (mvE (mvX n) ac tc false) (mvTo ac tc n)) = mvTo ac tc n := by unfold mvRes; rw [if_neg (fun e => e hz)]
            rw [e1r] at hS
            rw [hz]
            refine WC.skip ?_
            refine thenQ_n (hK24 _ _ ?_)
            refine WC.seq (fun K27 hK27 => ?_)
            refine WC.seq (fun K28 hK28 => ?_)
            refine WC.draw 43 (.look 0 (.look 1 (.look 2 (.look 3 (.look 4 (.look 5 (.look 6 (.look 7 (.look 8 (.look 9 (.look 10 (.look 11 (.look 12 (.look 13 (.look 14 (.look 15 (.look 16 (.look 17 (.look 18 (.look 19 (.look 20 (.look 21 (.look 22 (.look 23 (.look 24 (.look 25 (.look 26 (.look 27 (.look 28 (.look 29 (.look 30 (.look 31 (.look 32 (.look 33 (.look 34 (.look 35 (.look 36 (.look 37 (.look 38 (.look 39 (.look 40 (.look 41 (.look 42 .nil))))))))))))))))))))))))))))))))))))))))))) (by kernel_rfl) (fun _ _ _ h => h) (fun w1 hw1 => ?_)
            replace hS := hS.bel hw1
            have hS1 := hS
            have hT := St.start w1
            refine ML.look rfl rfl rfl (fun w hw => (by have hS := hS1.bel hw; exact opW.moveV (v := v29) rfl ⟨rfl, rfl⟩)) ?_
            refine ML.look rfl rfl rfl (fun w hw => (by have hS := hS1.bel hw; exact opW.lenV rfl ((hS.sl (v := v29) (xs := (mvTo ac tc n)) (by first | exact .h0 | exact .h1 | exact .h2 | exact .h3 | exact .h4 | exact .h5 | exact .h6 | exact .h7 | exact .h8 | exact .h9 | exact .h10 | exact .h11 | exact .h12 | exact .h13 | exact .h14))) ⟨rfl, rfl⟩)) ?_
            refine ML.look rfl rfl rfl (fun w hw => (by have hS := hS1.bel hw; exact opW.boolF (by rfl) (opW.neq rfl rfl ⟨rfl, rfl⟩) ⟨rfl, rfl⟩)) ?_
            refine ML.look rfl rfl rfl (fun w hw => (by have hS := hS1.bel hw; exact opW.moveB rfl ⟨rfl, rfl⟩)) ?_
            refine ML.lookT 97 rfl rfl rfl rfl rfl rfl (fun w hw => (by have hS := hS1.bel hw; exact opW.moveV (v := v29) rfl ⟨rfl, rfl⟩)) ?_
            refine ML.lookT 97 rfl rfl rfl rfl rfl rfl (fun w hw => (by have hS := hS1.bel hw; exact opW.idxV (k := .i64) (i := (0 : Int)) (v := v29) rfl (hS.sl (v := v29) (xs := (mvTo ac tc n)) (by first | exact .h0 | exact .h1 | exact .h2 | exact .h3 | exact .h4 | exact .h5 | exact .h6 | exact .h7 | exact .h8 | exact .h9 | exact .h10 | exact .h11 | exact .h12 | exact .h13 | exact .h14)) rfl ⟨by decide, by show (0 : Int) < 2; decide⟩ ⟨rfl, rfl⟩)) ?_
            refine ML.lookT 97 rfl rfl rfl rfl rfl rfl (fun w hw => (by have hS := hS1.bel hw; exact opW.fieldAddr rfl ((hS.sl (v := v29) (xs := (mvTo ac tc n)) (by first | exact .h0 | exact .h1 | exact .h2 | exact .h3 | exact .h4 | exact .h5 | exact .h6 | exact .h7 | exact .h8 | exact .h9 | exact .h10 | exact .h11 | exact .h12 | exact .h13 | exact .h14)).isP (i := 0) (mvTo_0 ac tc n)) ⟨rfl, rfl⟩)) ?_
            refine ML.lookT 97 rfl rfl rfl rfl rfl rfl (fun w hw => (by have hS := hS1.bel hw; exact opW.loadV rfl (Ld.pt1 ((hS.sl (v := v29) (xs := (mvTo ac tc n)) (by first | exact .h0 | exact .h1 | exact .h2 | exact .h3 | exact .h4 | exact .h5 | exact .h6 | exact .h7 | exact .h8 | exact .h9 | exact .h10 | exact .h11 | exact .h12 | exact .h13 | exact .h14)).isPt (i := 0) (mvTo_0 ac tc n)) 0 (Account.at_coins ({ ac with coins := ac.coins - n } : Account))) ⟨rfl, rfl⟩)) ?_
            refine ML.lookT 97 rfl rfl rfl rfl rfl rfl (fun w hw => (by have hS := hS1.bel hw; exact opW.fieldAddrB rfl ⟨rfl, rfl⟩)) ?_
            refine ML.lookT 97 rfl rfl rfl rfl rfl rfl (fun w hw => (by have hS := hS1.bel hw; exact opW.loadV rfl (hS.ld1 (by first | exact .h0 | exact .h1 | exact .h2 | exact .h3 | exact .h4 | exact .h5 | exact .h6 | exact .h7 | exact .h8 | exact .h9 | exact .h10 | exact .h11 | exact .h12 | exact .h13 | exact .h14) (Account.at_coins ac)) ⟨rfl, rfl⟩)) ?_
            refine ML.lookT 97 rfl rfl rfl rfl rfl rfl (fun w hw => (by have hS := hS1.bel hw; exact opW.moveI rfl ⟨rfl, rfl⟩)) ?_
            refine ML.lookT 97 rfl rfl rfl rfl rfl rfl (fun w hw => (by have hS := hS1.bel hw; exact opW.sub rfl rfl (nsub hpn hfc) ⟨rfl, rfl⟩)) ?_
            refine ML.lookT 97 rfl rfl rfl rfl rfl rfl (fun w hw => (by have hS := hS1.bel hw; exact opW.boolF (by simp) (opW.neq rfl rfl ⟨rfl, rfl⟩) ⟨rfl, rfl⟩)) ?_
            refine ML.look rfl rfl rfl (fun w hw => (by have hS := hS1.bel hw; exact opW.pickT rfl rfl ⟨rfl, rfl⟩)) ?_
            refine ML.look rfl rfl rfl (fun w hw => (by have hS := hS1.bel hw; exact opW.moveB rfl ⟨rfl, rfl⟩)) ?_
            refine ML.lookT 108 rfl rfl rfl rfl rfl rfl (fun w hw => (by have hS := hS1.bel hw; exact opW.moveV (v := v29) rfl ⟨rfl, rfl⟩)) ?_
            refine ML.lookT 108 rfl rfl rfl rfl rfl rfl (fun w hw => (by have hS := hS1.bel hw; exact opW.idxV (k := .i64) (i := (1 : Int)) (v := v29) rfl (hS.sl (v := v29) (xs := (mvTo ac tc n)) (by first | exact .h0 | exact .h1 | exact .h2 | exact .h3 | exact .h4 | exact .h5 | exact .h6 | exact .h7 | exact .h8 | exact .h9 | exact .h10 | exact .h11 | exact .h12 | exact .h13 | exact .h14)) rfl ⟨by decide, by show (1 : Int) < 2; decide⟩ ⟨rfl, rfl⟩)) ?_
            refine ML.lookT 108 rfl rfl rfl rfl rfl rfl (fun w hw => (by have hS := hS1.bel hw; exact opW.fieldAddr rfl ((hS.sl (v := v29) (xs := (mvTo ac tc n)) (by first | exact .h0 | exact .h1 | exact .h2 | exact .h3 | exact .h4 | exact .h5 | exact .h6 | exact .h7 | exact .h8 | exact .h9 | exact .h10 | exact .h11 | exact .h12 | exact .h13 | exact .h14)).isP (i := 1) (mvTo_1 ac tc n)) ⟨rfl, rfl⟩)) ?_
            refine ML.lookT 108 rfl rfl rfl rfl rfl rfl (fun w hw => (by have hS := hS1.bel hw; exact opW.loadV rfl (Ld.pt1 ((hS.sl (v := v29) (xs := (mvTo ac tc n)) (by first | exact .h0 | exact .h1 | exact .h2 | exact .h3 | exact .h4 | exact .h5 | exact .h6 | exact .h7 | exact .h8 | exact .h9 | exact .h10 | exact .h11 | exact .h12 | exact .h13 | exact .h14)).isPt (i := 1) (mvTo_1 ac tc n)) 0 (Account.at_coins ({ tc with coins := tc.coins + n } : Account))) ⟨rfl, rfl⟩)) ?_
            refine ML.lookT 108 rfl rfl rfl rfl rfl rfl (fun w hw => (by have hS := hS1.bel hw; exact opW.fieldAddrB rfl ⟨rfl, rfl⟩)) ?_
            refine ML.lookT 108 rfl rfl rfl rfl rfl rfl (fun w hw => (by have hS := hS1.bel hw; exact opW.loadV rfl (hS.ld1 (by first | exact .h0 | exact .h1 | exact .h2 | exact .h3 | exact .h4 | exact .h5 | exact .h6 | exact .h7 | exact .h8 | exact .h9 | exact .h10 | exact .h11 | exact .h12 | exact .h13 | exact .h14) (Account.at_coins tc)) ⟨rfl, rfl⟩)) ?_
            refine ML.lookT 108 rfl rfl rfl rfl rfl rfl (fun w hw => (by have hS := hS1.bel hw; exact opW.moveI rfl ⟨rfl, rfl⟩)) ?_
            refine ML.lookT 108 rfl rfl rfl rfl rfl rfl (fun w hw => (by have hS := hS1.bel hw; exact opW.add rfl rfl (nadd (by omega)) ⟨rfl, rfl⟩)) ?_
            refine ML.lookT 108 rfl rfl rfl rfl rfl rfl (fun w hw => (by have hS := hS1.bel hw; exact opW.boolF (by simp) (opW.neq rfl rfl ⟨rfl, rfl⟩) ⟨rfl, rfl⟩)) ?_
            refine ML.look rfl rfl rfl (fun w hw => (by have hS := hS1.bel hw; exact opW.pickT rfl rfl ⟨rfl, rfl⟩)) ?_
            refine ML.look rfl rfl rfl (fun w hw => (by have hS := hS1.bel hw; exact opW.moveB rfl ⟨rfl, rfl⟩)) ?_
            refine ML.lookT 119 rfl rfl rfl rfl rfl rfl (fun w hw => (by have hS := hS1.bel hw; exact opW.moveV (v := v29) rfl ⟨rfl, rfl⟩)) ?_
            refine ML.lookT 119 rfl rfl rfl rfl rfl rfl (fun w hw => (by have hS := hS1.bel hw; exact opW.idxV (k := .i64) (i := (1 : Int)) (v := v29) rfl (hS.sl (v := v29) (xs := (mvTo ac tc n)) (by first | exact .h0 | exact .h1 | exact .h2 | exact .h3 | exact .h4 | exact .h5 | exact .h6 | exact .h7 | exact .h8 | exact .h9 | exact .h10 | exact .h11 | exact .h12 | exact .h13 | exact .h14)) rfl ⟨by decide, by show (1 : Int) < 2; decide⟩ ⟨rfl, rfl⟩)) ?_
            refine ML.lookT 119 rfl rfl rfl rfl rfl rfl (fun w hw => (by have hS := hS1.bel hw; exact opW.fieldAddr rfl ((hS.sl (v := v29) (xs := (mvTo ac tc n)) (by first | exact .h0 | exact .h1 | exact .h2 | exact .h3 | exact .h4 | exact .h5 | exact .h6 | exact .h7 | exact .h8 | exact .h9 | exact .h10 | exact .h11 | exact .h12 | exact .h13 | exact .h14)).isP (i := 1) (mvTo_1 ac tc n)) ⟨rfl, rfl⟩)) ?_
            refine ML.lookT 119 rfl rfl rfl rfl rfl rfl (fun w hw => (by have hS := hS1.bel hw; exact opW.loadV rfl (Ld.ptA ((hS.sl (v := v29) (xs := (mvTo ac tc n)) (by first | exact .h0 | exact .h1 | exact .h2 | exact .h3 | exact .h4 | exact .h5 | exact .h6 | exact .h7 | exact .h8 | exact .h9 | exact .h10 | exact .h11 | exact .h12 | exact .h13 | exact .h14)).isPt (i := 1) (mvTo_1 ac tc n)) 1 (Account.ex_owner ({ tc with coins := tc.coins + n } : Account)) (by rw [Enc.size_eq]; decide)) ⟨rfl, rfl⟩)) ?_
            refine ML.lookT 119 rfl rfl rfl rfl rfl rfl (fun w hw => (by have hS := hS1.bel hw; exact opW.fieldAddrB rfl ⟨rfl, rfl⟩)) ?_
            refine ML.lookT 119 rfl rfl rfl rfl rfl rfl (fun w hw => (by have hS := hS1.bel hw; exact opW.loadV rfl (hS.ldF (cs := Enc.enc tc) (o := 1) (by first | exact .h0 | exact .h1 | exact .h2 | exact .h3 | exact .h4 | exact .h5 | exact .h6 | exact .h7 | exact .h8 | exact .h9 | exact .h10 | exact .h11 | exact .h12 | exact .h13 | exact .h14) (Account.ex_owner _) (by rw [Enc.size_eq]; decide)) ⟨rfl, rfl⟩)) ?_
            refine ML.lookT 119 rfl rfl rfl rfl rfl rfl (fun w hw => (by have hS := hS1.bel hw; exact opW.boolF (by simp) (opW.neqE rfl rfl ⟨rfl, rfl⟩) ⟨rfl, rfl⟩)) ?_
            refine ML.look rfl rfl rfl (fun w hw => (by have hS := hS1.bel hw; exact opW.pickT rfl rfl ⟨rfl, rfl⟩)) ?_
            refine ML.look rfl rfl rfl (fun w hw => (by have hS := hS1.bel hw; exact opW.moveB rfl ⟨rfl, rfl⟩)) ?_
            refine ML.lookT 128 rfl rfl rfl rfl rfl rfl (fun w hw => (by have hS := hS1.bel hw; exact opW.moveV (v := v29) rfl ⟨rfl, rfl⟩)) ?_
            refine ML.lookT 128 rfl rfl rfl rfl rfl rfl (fun w hw => (by have hS := hS1.bel hw; exact opW.idxV (k := .i64) (i := (1 : Int)) (v := v29) rfl (hS.sl (v := v29) (xs := (mvTo ac tc n)) (by first | exact .h0 | exact .h1 | exact .h2 | exact .h3 | exact .h4 | exact .h5 | exact .h6 | exact .h7 | exact .h8 | exact .h9 | exact .h10 | exact .h11 | exact .h12 | exact .h13 | exact .h14)) rfl ⟨by decide, by show (1 : Int) < 2; decide⟩ ⟨rfl, rfl⟩)) ?_
            refine ML.lookT 128 rfl rfl rfl rfl rfl rfl (fun w hw => (by have hS := hS1.bel hw; exact opW.fieldAddr rfl ((hS.sl (v := v29) (xs := (mvTo ac tc n)) (by first | exact .h0 | exact .h1 | exact .h2 | exact .h3 | exact .h4 | exact .h5 | exact .h6 | exact .h7 | exact .h8 | exact .h9 | exact .h10 | exact .h11 | exact .h12 | exact .h13 | exact .h14)).isP (i := 1) (mvTo_1 ac tc n)) ⟨rfl, rfl⟩)) ?_
            refine ML.lookT 128 rfl rfl rfl rfl rfl rfl (fun w hw => (by have hS := hS1.bel hw; exact opW.loadV rfl (Ld.pt1 ((hS.sl (v := v29) (xs := (mvTo ac tc n)) (by first | exact .h0 | exact .h1 | exact .h2 | exact .h3 | exact .h4 | exact .h5 | exact .h6 | exact .h7 | exact .h8 | exact .h9 | exact .h10 | exact .h11 | exact .h12 | exact .h13 | exact .h14)).isPt (i := 1) (mvTo_1 ac tc n)) 33 (Account.at_space ({ tc with coins := tc.coins + n } : Account))) ⟨rfl, rfl⟩)) ?_
            refine ML.lookT 128 rfl rfl rfl rfl rfl rfl (fun w hw => (by have hS := hS1.bel hw; exact opW.fieldAddrB rfl ⟨rfl, rfl⟩)) ?_
            refine ML.lookT 128 rfl rfl rfl rfl rfl rfl (fun w hw => (by have hS := hS1.bel hw; exact opW.loadV rfl (hS.ld1 (by first | exact .h0 | exact .h1 | exact .h2 | exact .h3 | exact .h4 | exact .h5 | exact .h6 | exact .h7 | exact .h8 | exact .h9 | exact .h10 | exact .h11 | exact .h12 | exact .h13 | exact .h14) (Account.at_space tc)) ⟨rfl, rfl⟩)) ?_
            refine ML.lookT 128 rfl rfl rfl rfl rfl rfl (fun w hw => (by have hS := hS1.bel hw; exact opW.boolF (by simp) (opW.neq rfl rfl ⟨rfl, rfl⟩) ⟨rfl, rfl⟩)) ?_
            refine ML.look rfl rfl rfl (fun w hw => (by have hS := hS1.bel hw; exact opW.pickT rfl rfl ⟨rfl, rfl⟩)) ?_
            refine ML.nil ?_
            refine thenQ_n (hK28 _ _ ?_)
            refine WC.cond _ rfl (fun hc5 => ?_) (fun hc5 => ?_)
            ·
              have hr5 := hc5
              try simp only [decide_eq_true_eq, decide_eq_false_iff_not, Bool.and_eq_true, Bool.or_eq_true, Bool.and_eq_false_iff, Bool.or_eq_false_iff, Bool.not_eq_true', Bool.not_eq_false', Int.not_lt, Int.not_le] at hc5
              simp at hr5
            ·
              have hr5 := hc5
              try simp only [decide_eq_true_eq, decide_eq_false_iff_not, Bool.and_eq_true, Bool.or_eq_true, Bool.and_eq_false_iff, Bool.or_eq_false_iff, Bool.not_eq_true', Bool.not_eq_false', Int.not_lt, Int.not_le] at hc5
              refine WC.skip ?_
              refine thenQ_n (hK27 _ _ ?_)
              refine WC.seq (fun K29 hK29 => ?_)
              refine WC.region ?_
              refine WL.op rfl (opW.moveI rfl ?_)
              refine WL.op rfl (opW.call (move14 _ n hn) rfl ?_)
              rintro _ w ⟨va3, vd3, rfl, hN3⟩
              replace hS := hS.merge hN3
              simp only [List.cons_append, List.nil_append] at hS
              refine WL.op rfl (opW.allocA hS ?_)
              intro b16 w _ hS
              refine WL.op0 (opW.storeE hS rfl rfl (by first | exact .h0 | exact .h1 | exact .h2 | exact .h3 | exact .h4 | exact .h5 | exact .h6 | exact .h7 | exact .h8 | exact .h9 | exact .h10 | exact .h11 | exact .h12 | exact .h13 | exact .h14) (by first | rfl | exact Enc.size_eq _) ?_)
              intro w hS; replace hS := hS _ (by first | exact .h0 | exact .h1 | exact .h2 | exact .h3 | exact .h4 | exact .h5 | exact .h6 | exact .h7 | exact .h8 | exact .h9 | exact .h10 | exact .h11 | exact .h12 | exact .h13 | exact .h14)
              refine WL.nil ?_
              refine thenQ_n (hK29 _ _ ?_)
              refine WC.seq (fun K30 hK30 => ?_)
              refine WC.region ?_
              refine WL.op rfl (opW.buildSl hS (([1, 0] : List UInt8)) [.int .u8 1, .int .u8 0] rfl rfl rfl rfl (by decide) ?_)
              intro b139 w hw hS
              refine WL.op rfl (opW.fieldAddrB rfl ?_)
              refine WL.op0 (opW.storeF (v := .slice (some ⟨b139, 0, none⟩) 2 2) (sz := 1) (cs' := Enc.enc (⟨1, ⟨some ⟨b139, 0, none⟩, 2, 2⟩, vd3⟩ : Instr)) hS rfl rfl (by first | exact .h0 | exact .h1 | exact .h2 | exact .h3 | exact .h4 | exact .h5 | exact .h6 | exact .h7 | exact .h8 | exact .h9 | exact .h10 | exact .h11 | exact .h12 | exact .h13 | exact .h14) rfl (by rw [Enc.size_eq]; decide) (Enc.one (α := SlV) ⟨some ⟨b139, 0, none⟩, 2, 2⟩) (Instr.set_accounts (⟨1, va3, vd3⟩ : Instr) ⟨some ⟨b139, 0, none⟩, 2, 2⟩) ?_)
              intro w hS; replace hS := hS _ (by first | exact .h0 | exact .h1 | exact .h2 | exact .h3 | exact .h4 | exact .h5 | exact .h6 | exact .h7 | exact .h8 | exact .h9 | exact .h10 | exact .h11 | exact .h12 | exact .h13 | exact .h14)
              refine WL.nil ?_
              refine thenQ_n (hK30 _ _ ?_)
              refine WC.seq (fun K31 hK31 => ?_)
              refine WC.draw 11 (.look 0 (.look 2 (.one 1 (.one 3 (.look 4 (.look 5 (.look 6 (.look 7 (.look 8 (.look 9 (.look 10 .nil))))))))))) (by kernel_rfl) (fun _ _ _ h => h) (fun w1 hw1 => ?_)
              replace hS := hS.bel hw1
              have hS1 := hS
              have hT := St.start w1
              have hwm : ∀ y ∈ mvTo ac tc n, okW y := by
                intro y hy
                simp only [mvTo, List.mem_cons, List.not_mem_nil, or_false] at hy
                rcases hy with rfl | rfl
                · exact ⟨by simp only; omega, hfw.2⟩
                · exact ⟨by simp only; omega, htw.2⟩
              refine ML.look rfl rfl rfl (fun w hw => (by have hS := hS1.bel hw; exact opW.moveV (v := v29) rfl ⟨rfl, rfl⟩)) ?_
              refine ML.look rfl rfl rfl (fun w hw => (by have hS := hS1.bel hw; exact opW.loadV rfl (hS.ldA (cs := Enc.enc (⟨1, ⟨some ⟨b139, 0, none⟩, 2, 2⟩, vd3⟩ : Instr)) (by first | exact .h0 | exact .h1 | exact .h2 | exact .h3 | exact .h4 | exact .h5 | exact .h6 | exact .h7 | exact .h8 | exact .h9 | exact .h10 | exact .h11 | exact .h12 | exact .h13 | exact .h14) (Enc.size_eq _)) ⟨rfl, rfl⟩)) ?_
              refine ML.one rfl rfl rfl (opW.call (both14 _) rfl ?_)
              rintro v143 w ⟨hn143, hw⟩; replace hT := hT.newOwn hw hn143.1 hn143.2
              refine ⟨hT.old, ?_⟩
              have hS := hS1.merge hT
              try simp only [List.cons_append, List.nil_append] at hS
              refine ML.one rfl rfl rfl (opW.call (do_ok _ v29 v143 (⟨1, ⟨some ⟨b139, 0, none⟩, 2, 2⟩, vd3⟩ : Instr) (mvTo ac tc n) bothL [1, 0] (mvD n) (hS.sl (v := v29) (xs := (mvTo ac tc n)) (by first | exact .h0 | exact .h1 | exact .h2 | exact .h3 | exact .h4 | exact .h5 | exact .h6 | exact .h7 | exact .h8 | exact .h9 | exact .h10 | exact .h11 | exact .h12 | exact .h13 | exact .h14)) (hS.sl (v := v143) (xs := bothL) (by first | exact .h0 | exact .h1 | exact .h2 | exact .h3 | exact .h4 | exact .h5 | exact .h6 | exact .h7 | exact .h8 | exact .h9 | exact .h10 | exact .h11 | exact .h12 | exact .h13 | exact .h14)) (hS.sl (v := (.slice (some ⟨b139, 0, none⟩) 2 2)) (xs := ([1, 0] : List UInt8)) (by first | exact .h0 | exact .h1 | exact .h2 | exact .h3 | exact .h4 | exact .h5 | exact .h6 | exact .h7 | exact .h8 | exact .h9 | exact .h10 | exact .h11 | exact .h12 | exact .h13 | exact .h14)) (hS.sl (v := vd3.v) (xs := mvD n) (by first | exact .h0 | exact .h1 | exact .h2 | exact .h3 | exact .h4 | exact .h5 | exact .h6 | exact .h7 | exact .h8 | exact .h9 | exact .h10 | exact .h11 | exact .h12 | exact .h13 | exact .h14)) (Nat.le_of_ble_eq_true rfl) hwm) rfl ?_)
              rintro _ w ⟨v145, rfl, hn145, hw⟩
              rw [show doF (mvTo ac tc n) bothL [1, 0] (mvD n) = (if plainB tc = true then 0 else 16, 0, mvRes (if plainB tc = true then 0 else 16) ([ac, tc] : List Account)) from by rw [show (mvTo ac tc n) = [({ ac with coins := ac.coins - n } : Account), ({ tc with coins := tc.coins + n } : Account)] from rfl, do_mv10 _ _ hn, hbk]; exact congrArg (fun z => (_, 0, mvRes _ z)) (back_list hpn)] at hn145 ⊢
              replace hT := hT.newOwn hw hn145.1 hn145.2
              refine ⟨hT.old, ?_⟩
              have hS := hS1.merge hT
              try simp only [List.cons_append, List.nil_append] at hS
              refine ML.look rfl rfl rfl (fun w hw => (by have hS := hS1.bel hw; exact opW.moveV (v := .tuple #[v145, .int .u64 ((0 : Nat) : Int), .int .i64 (if plainB tc = true then (0 : Int) else 16)]) rfl ⟨rfl, rfl⟩)) ?_
              refine ML.look rfl rfl rfl (fun w hw => (by have hS := hS1.bel hw; exact opW.extract rfl rfl ⟨rfl, rfl⟩)) ?_
              refine ML.look rfl rfl rfl (fun w hw => (by have hS := hS1.bel hw; exact opW.extract rfl rfl ⟨rfl, rfl⟩)) ?_
              refine ML.look rfl rfl rfl (fun w hw => (by have hS := hS1.bel hw; exact opW.extract rfl rfl ⟨rfl, rfl⟩)) ?_
              refine ML.look rfl rfl rfl (fun w hw => (by have hS := hS1.bel hw; exact opW.assignV rfl ⟨rfl, rfl⟩)) ?_
              refine ML.look rfl rfl rfl (fun w hw => (by have hS := hS1.bel hw; exact opW.assignI rfl ⟨rfl, rfl⟩)) ?_
              refine ML.look rfl rfl rfl (fun w hw => (by have hS := hS1.bel hw; exact opW.assignI rfl ⟨rfl, rfl⟩)) ?_
              refine ML.nil ?_
              refine thenQ_n (hK31 _ _ ?_)
              refine WC.seq (fun K32 hK32 => ?_)
              refine WC.region ?_
              refine WL.op rfl (opW.fieldAddrB rfl ?_)
              refine WL.op rfl (opW.loadV rfl (hS.ldF (cs := Enc.enc tc) (o := 1) (by first | exact .h0 | exact .h1 | exact .h2 | exact .h3 | exact .h4 | exact .h5 | exact .h6 | exact .h7 | exact .h8 | exact .h9 | exact .h10 | exact .h11 | exact .h12 | exact .h13 | exact .h14) (Account.ex_owner _) (by rw [Enc.size_eq]; decide)) ?_)
              refine WL.op rfl (opW.buildVec (k := sysK) (by first | rfl | (simp only [sysK, az, kk, enc_vset, enc_vz]; rfl)) (by intro p hp; first | (exfalso; simp at hp; done) | (simp only [List.map_cons, List.map_nil, List.mem_cons, List.not_mem_nil, or_false] at hp; rcases hp with rfl | rfl | rfl | rfl <;> exact ⟨by simp, rfl⟩)) ?_)
              refine WL.op rfl (opW.eqlE rfl rfl ?_)
              refine WL.op rfl (opW.moveB rfl ?_)
              refine WL.gd _ 153 _ rfl rfl rfl rfl (fun hg154 => opW.fieldAddrB rfl ⟨rfl, Bel.refl _⟩) (fun w hw => ?_)
              replace hS := hS.bel hw
              refine WL.gd _ 153 _ rfl rfl rfl rfl (fun hg155 => opW.loadV (by first | exact gv_of rfl hg155 | rfl) (hS.ld1 (by first | exact .h0 | exact .h1 | exact .h2 | exact .h3 | exact .h4 | exact .h5 | exact .h6 | exact .h7 | exact .h8 | exact .h9 | exact .h10 | exact .h11 | exact .h12 | exact .h13 | exact .h14) (Account.at_space tc)) ⟨rfl, Bel.refl _⟩) (fun w hw => ?_)
              replace hS := hS.bel hw
              refine WL.gd _ 153 _ rfl rfl rfl rfl (fun hg156 => opW.eql (by first | exact gv_of rfl hg156 | rfl) rfl ⟨rfl, Bel.refl _⟩) (fun w hw => ?_)
              replace hS := hS.bel hw
              refine WL.op rfl (opW.pickAnd rfl (by first | rfl) rfl ?_)
              refine WL.op rfl (opW.assignB rfl ?_)
              rw [show (decide (tc.owner = sysK) && decide (((tc.space : Nat) : Int) = 0)) = plainB tc from rfl]
              generalize hpt : plainB tc = pt at hS hbk ⊢
              refine WL.nil ?_
              refine thenQ_n (hK32 _ _ ?_)
              refine WC.seq (fun K33 hK33 => ?_)
              refine WC.region ?_
              refine WL.op rfl (opW.moveI rfl ?_)
              refine WL.op rfl (opW.eql rfl rfl ?_)
              refine WL.op rfl (opW.moveB rfl ?_)
              refine WL.op rfl (opW.boolT (by cases pt <;> rfl) (opW.eqlB rfl rfl ⟨rfl, rfl⟩) ?_)
              refine WL.op rfl (opW.moveB rfl ?_)
              refine WL.gT 162 rfl rfl rfl (WL.op rfl (opW.moveB rfl ?_))
              refine WL.gT 162 rfl rfl rfl (WL.op rfl (opW.not rfl ?_))
              refine WL.gT 162 rfl rfl rfl (WL.op rfl (opW.moveB rfl ?_))
              cases hcs165 : (!pt) with
              | true =>
                refine WL.gF 165 rfl rfl rfl rfl ?_
                refine WL.gF 165 rfl rfl rfl rfl ?_
                refine WL.gF 165 rfl rfl rfl rfl ?_
                refine WL.gT 162 rfl rfl rfl (WL.op rfl (opW.pickT rfl rfl ?_))
                refine WL.op rfl (opW.pickT rfl rfl ?_)
                refine WL.op rfl (opW.moveB rfl ?_)
                refine WL.gT 171 rfl rfl rfl (WL.op rfl (opW.call (lives14 _) rfl ?_))
                rintro _ w ⟨rfl, hw⟩; replace hS := hS.bel hw
                refine WL.op rfl (opW.pickT rfl rfl ?_)
                refine WL.op rfl (opW.assignB rfl ?_)
                refine WL.nil ?_
                refine thenQ_n (hK33 _ _ ?_)
                refine WC.ret ?_
                refine bodyQ_ret (.tmpB rfl .nil) ?_
                exact ⟨rfl, hS.old⟩
              | false =>
                refine WL.gT 165 rfl rfl rfl (WL.op rfl (opW.moveV rfl ?_))
                refine WL.gT 165 rfl rfl rfl (WL.op rfl (opW.moveV (v := (.slice (some ⟨b23, 0, none⟩) 2 2)) rfl ?_))
                refine WL.gT 165 rfl rfl rfl (WL.op rfl (opW.call (sameAccounts_ok _ v145 (.slice (some ⟨b23, 0, none⟩) 2 2) (mvRes (if pt = true then 0 else 16) ([ac, tc] : List Account)) ([ac, tc] : List Account) (hS.sl (v := v145) (xs := mvRes (if pt = true then 0 else 16) ([ac, tc] : List Account)) (by first | exact .h0 | exact .h1 | exact .h2 | exact .h3 | exact .h4 | exact .h5 | exact .h6 | exact .h7 | exact .h8 | exact .h9 | exact .h10 | exact .h11 | exact .h12 | exact .h13 | exact .h14)) (hS.sl (v := (.slice (some ⟨b23, 0, none⟩) 2 2)) (xs := ([ac, tc] : List Account)) (by first | exact .h0 | exact .h1 | exact .h2 | exact .h3 | exact .h4 | exact .h5 | exact .h6 | exact .h7 | exact .h8 | exact .h9 | exact .h10 | exact .h11 | exact .h12 | exact .h13 | exact .h14))) rfl ?_))
                rintro _ w ⟨rfl, hw⟩; replace hS := hS.bel hw
                have hp1 : pt = true := by simpa using hcs165
                rw [show decide (mvRes (if pt = true then 0 else 16) ([ac, tc] : List Account) = ([ac, tc] : List Account)) = true from by rw [if_pos hp1]; unfold mvRes; rw [if_neg (by decide)]; simp]
                refine WL.gT 162 rfl rfl rfl (WL.op rfl (opW.pickT rfl rfl ?_))
                refine WL.op rfl (opW.pickT rfl rfl ?_)
                refine WL.op rfl (opW.moveB rfl ?_)
                refine WL.gT 171 rfl rfl rfl (WL.op rfl (opW.call (lives14 _) rfl ?_))
                rintro _ w ⟨rfl, hw⟩; replace hS := hS.bel hw
                refine WL.op rfl (opW.pickT rfl rfl ?_)
                refine WL.op rfl (opW.assignB rfl ?_)
                refine WL.nil ?_
                refine thenQ_n (hK33 _ _ ?_)
                refine WC.ret ?_
                refine bodyQ_ret (.tmpB rfl .nil) ?_
                exact ⟨rfl, hS.old⟩

end Go.Fer
