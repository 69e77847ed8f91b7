/- Find, Put, Resolve -/
import Derived.Test.YtpaeddbfidmjbaaA
set_option linter.all false
namespace Go.Fer
open Go Go.Proofs Go.RowKit

theorem clip_k (w0 : World) (v : Value) (xs : List Key) (hx : SlR w0 v xs) : Ret Try.prog 27 #[v] w0 (fun u w' => u = cutV v 0 xs.length xs.length (Enc.sz (Key)) ∧ Bel w0 w') := by
  refine Ret.enter (args := [v]) Try.func27 rfl Try.ntmps27 Try.results27 rfl ?_
  have hS := St.start w0
  refine WC.seq (fun K1 hK1 => ?_)
  refine WC.region ?_
  refine WL.op rfl (opW.assignV (v := .slice none 0 0) rfl ?_)
  refine WL.nil ?_
  refine thenQ_n (hK1 _ _ ?_)
  refine WC.seq (fun K2 hK2 => ?_)
  refine WC.region ?_
  refine WL.op rfl (opW.moveV (v := v) rfl ?_)
  refine WL.op rfl (opW.moveV (v := v) rfl ?_)
  refine WL.op rfl (opW.lenV rfl ((hx.bel hS.old)) ?_)
  refine WL.op rfl (opW.moveV (v := v) rfl ?_)
  refine WL.op rfl (opW.lenV rfl ((hx.bel hS.old)) ?_)
  refine WL.op rfl (opW.cutS (hx.bel hS.old) ⟨⟨_, rfl⟩, hx.cap⟩ ⟨⟨_, rfl⟩, Nat.le_refl _⟩ ⟨rfl, Nat.zero_le _⟩ ?_)
  refine WL.op rfl (opW.assignV rfl ?_)
  refine WL.nil ?_
  refine thenQ_n (hK2 _ _ ?_)
  refine WC.ret ?_
  refine bodyQ_ret (.tmp .nil) ?_
  exact ⟨rfl, hS.old⟩

theorem find_ok (w0 : World) (p : Nat) (d : TbD) (k : Key) (ha : TbAt w0 p d) (hok : TbOk d) : Ret Try.prog 14 #[.pointer (some ⟨p, 0, none⟩), .agg (Enc.enc k)] w0 (fun u w' => ∃ v e l, u = .tuple #[v, .int .i64 e] ∧ ((d.find k = some l ∧ e = 0) ∨ (d.find k = none ∧ e = 11 ∧ l = [])) ∧ New w0 w' v 36 l ∧ Bel w0 w') := by
  refine Ret.enter (args := [.pointer (some ⟨p, 0, none⟩), .agg (Enc.enc k)]) Try.func14 rfl Try.ntmps14 Try.results14 rfl ?_
  have hS := St.start w0
  refine WC.seq (fun K1 hK1 => ?_)
  refine WC.region ?_
  refine WL.op rfl (opW.boxA hS rfl ?_)
  intro b3 w _ hS
  refine WL.op rfl (opW.assignV (v := .slice none 0 0) rfl ?_)
  refine WL.op rfl (opW.assignI rfl ?_)
  refine WL.nil ?_
  refine thenQ_n (hK1 _ _ ?_)
  refine WC.seq (fun K2 hK2 => ?_)
  refine WC.seq (fun K3 hK3 => ?_)
  refine WC.region ?_
  refine WL.op rfl (opW.moveV (v := .pointer (some ⟨p, 0, none⟩)) rfl ?_)
  refine WL.op rfl (opW.call (there_ok _ p d.r (ha.1.bel hS.old)) rfl ?_)
  rintro _ w ⟨rfl, hw⟩; replace hS := hS.bel hw
  refine WL.op rfl (opW.not rfl ?_)
  refine WL.nil ?_
  refine thenQ_n (hK3 _ _ ?_)
  refine WC.cond _ rfl (fun hc0 => ?_) (fun hc0 => ?_)
  ·
    have hr0 := hc0
    try simp only [decide_eq_true_eq, decide_eq_false_iff_not, Bool.and_eq_true, Bool.or_eq_true, Bool.and_eq_false_iff, Bool.or_eq_false_iff, Bool.not_eq_true', Bool.not_eq_false', Int.not_lt, Int.not_le] at hc0
    simp at hr0
  ·
    have hr0 := hc0
    try simp only [decide_eq_true_eq, decide_eq_false_iff_not, Bool.and_eq_true, Bool.or_eq_true, Bool.and_eq_false_iff, Bool.or_eq_false_iff, Bool.not_eq_true', Bool.not_eq_false', Int.not_lt, Int.not_le] at hc0
    refine WC.skip ?_
    refine thenQ_n (hK2 _ _ ?_)
    refine WC.seq (fun K4 hK4 => ?_)
    refine WC.draw 11 (.look 0 (.look 1 (.look 2 (.look 3 (.look 4 (.look 5 (.look 6 (.look 7 (.look 8 (.look 9 (.look 10 .nil))))))))))) (by kernel_rfl) (fun _ _ _ h => h) (fun w1 hw1 => ?_)
    replace hS := hS.bel hw1
    have hS1 := hS
    have hT := St.start w1
    generalize hX : (aget k d.kvs).getD nilK = X
    refine ML.look rfl rfl rfl (fun w hw => (by have hS := hS1.bel hw; exact opW.moveV (v := .pointer (some ⟨p, 0, none⟩)) rfl ⟨rfl, rfl⟩)) ?_
    refine ML.look rfl rfl rfl (fun w hw => (by have hS := hS1.bel hw; exact opW.nilCheckB rfl ⟨rfl, rfl⟩)) ?_
    refine ML.look rfl rfl rfl (fun w hw => (by have hS := hS1.bel hw; exact opW.fieldAddrB rfl ⟨rfl, rfl⟩)) ?_
    refine ML.look rfl rfl rfl (fun w hw => (by have hS := hS1.bel hw; exact opW.loadV rfl ((ha.1.bel hS.old).at1 (TbS.at_of _)) ⟨rfl, rfl⟩)) ?_
    refine ML.look rfl rfl rfl (fun w hw => (by have hS := hS1.bel hw; exact opW.loadV rfl (hS.ldA (cs := Enc.enc k) (by first | exact .h0 | exact .h1 | exact .h2 | exact .h3 | exact .h4 | exact .h5 | exact .h6 | exact .h7 | exact .h8 | exact .h9 | exact .h10 | exact .h11 | exact .h12 | exact .h13 | exact .h14) (Enc.size_eq _)) ⟨rfl, rfl⟩)) ?_
    refine ML.look rfl rfl rfl (fun w hw => (by have hS := hS1.bel hw; exact opW.lookup2Z (κ := Key) (ν := Value × List Key) (k := k) (vv := Prod.fst) (z0 := nilK) (u := X) inferInstance (ha.2.1.bel hS.old) rfl rfl hX ⟨rfl, rfl⟩)) ?_
    refine ML.look rfl rfl rfl (fun w hw => (by have hS := hS1.bel hw; exact opW.moveV (v := .tuple #[X.1, .bool (aget k d.kvs).isSome]) rfl ⟨rfl, rfl⟩)) ?_
    refine ML.look rfl rfl rfl (fun w hw => (by have hS := hS1.bel hw; exact opW.extract rfl rfl ⟨rfl, rfl⟩)) ?_
    refine ML.look rfl rfl rfl (fun w hw => (by have hS := hS1.bel hw; exact opW.extract rfl rfl ⟨rfl, rfl⟩)) ?_
    refine ML.look rfl rfl rfl (fun w hw => (by have hS := hS1.bel hw; exact opW.assignV (v := X.1) rfl ⟨rfl, rfl⟩)) ?_
    refine ML.look rfl rfl rfl (fun w hw => (by have hS := hS1.bel hw; exact opW.assignB rfl ⟨rfl, rfl⟩)) ?_
    refine ML.nil ?_
    refine thenQ_n (hK4 _ _ ?_)
    refine WC.seq (fun K5 hK5 => ?_)
    refine WC.seq (fun K6 hK6 => ?_)
    refine WC.region ?_
    refine WL.op rfl (opW.moveB rfl ?_)
    refine WL.op rfl (opW.not rfl ?_)
    refine WL.nil ?_
    refine thenQ_n (hK6 _ _ ?_)
    refine WC.cond _ rfl (fun hc1 => ?_) (fun hc1 => ?_)
    ·
      have hr1 := hc1
      try simp only [decide_eq_true_eq, decide_eq_false_iff_not, Bool.and_eq_true, Bool.or_eq_true, Bool.and_eq_false_iff, Bool.or_eq_false_iff, Bool.not_eq_true', Bool.not_eq_false', Int.not_lt, Int.not_le] at hc1
      refine WC.seq (fun K7 hK7 => ?_)
      refine WC.region ?_
      refine WL.op rfl (opW.assignV (v := .slice none 0 0) rfl ?_)
      refine WL.op rfl (opW.assignI rfl ?_)
      refine WL.nil ?_
      refine thenQ_n (hK7 _ _ ?_)
      refine WC.ret ?_
      refine thenQ_r ?_
      refine bodyQ_ret (.tmpV (v := .slice none 0 0) rfl (.tmpI rfl .nil)) ?_
      have hno : aget k d.kvs = none := by simpa using hr1
      exact ⟨_, _, [], rfl, .inr ⟨by unfold TbD.find; rw [hno]; rfl, rfl, rfl⟩, New.nil _ _ _, hS.old⟩
    ·
      have hr1 := hc1
      try simp only [decide_eq_true_eq, decide_eq_false_iff_not, Bool.and_eq_true, Bool.or_eq_true, Bool.and_eq_false_iff, Bool.or_eq_false_iff, Bool.not_eq_true', Bool.not_eq_false', Int.not_lt, Int.not_le] at hc1
      have hrs : (aget k d.kvs).isSome = true := by simpa using hr1
      have hso : aget k d.kvs = some X := by
        rw [← hX]
        cases h : aget k d.kvs with
        | none => rw [h] at hrs; simp at hrs
        | some x => rfl
      have hfd : d.find k = some X.2 := by unfold TbD.find; rw [hso]; rfl
      have hlen := hok _ _ hfd
      refine WC.skip ?_
      refine thenQ_n (hK5 _ _ ?_)
      refine WC.seq (fun K8 hK8 => ?_)
      refine WC.region ?_
      refine WL.op rfl (opW.moveV (v := X.1) rfl ?_)
      refine WL.op rfl (opW.call (copied_ok _ X.1 X.2 ((ha.2.2 _ _ hso).bel hS.old) (by omega)) rfl ?_)
      rintro v23 w ⟨hv23, hw⟩
      replace hS := hS.newOwn hw hv23.1 hv23.2
      refine WL.op rfl (opW.assignV (v := v23) rfl ?_)
      refine WL.op rfl (opW.assignI rfl ?_)
      refine WL.nil ?_
      refine thenQ_n (hK8 _ _ ?_)
      refine WC.ret ?_
      refine bodyQ_ret (.tmpV (v := v23) rfl (.tmpI rfl .nil)) ?_
      exact ⟨_, _, X.2, rfl, .inl ⟨hfd, rfl⟩, hS.own_new (by first | exact .h0 | exact .h1 | exact .h2 | exact .h3 | exact .h4 | exact .h5 | exact .h6 | exact .h7 | exact .h8 | exact .h9 | exact .h10 | exact .h11 | exact .h12 | exact .h13 | exact .h14), hS.old⟩

theorem put_ok (wb w0 : World) (S : List Ent) (p : Nat) (d : TbD) (t : Key) (v : Value) (l : List Key) (hS0 : St wb (tbE p d :: S) w0) (hok : TbOk d) (hl : ∀ w, St wb S w → SlR w v l) : Ret Try.prog 15 #[.pointer (some ⟨p, 0, none⟩), .agg (Enc.enc t), v] w0 (fun u w' => ∃ d', u = .int .i64 (putC d t l) ∧ (putC d t l = 0 → ∀ k, d'.find k = if k = t then some l else d.find k) ∧ (putC d t l ≠ 0 → d' = d) ∧ TbOk d' ∧ St wb (tbE p d' :: S) w') := by
  refine Ret.enter (args := [.pointer (some ⟨p, 0, none⟩), .agg (Enc.enc t), v]) Try.func15 rfl Try.ntmps15 Try.results15 rfl ?_
  have hS := St.start w0
  replace hS := hS0.tbOpen
  refine WC.seq (fun K1 hK1 => ?_)
  refine WC.region ?_
  refine WL.op rfl (opW.boxA hS rfl ?_)
  intro b4 w _ hS
  refine WL.op rfl (opW.assignI rfl ?_)
  refine WL.nil ?_
  refine thenQ_n (hK1 _ _ ?_)
  refine WC.seq (fun K2 hK2 => ?_)
  refine WC.block ?_
  refine WC.seq (fun K3 hK3 => ?_)
  refine WC.region ?_
  refine WL.op rfl (opW.moveV (v := .pointer (some ⟨p, 0, none⟩)) rfl ?_)
  refine WL.op rfl (opW.call (there_ok _ p d.r (hS.pt (by first | exact .h0 | exact .h1 | exact .h2 | exact .h3 | exact .h4 | exact .h5 | exact .h6 | exact .h7 | exact .h8 | exact .h9 | exact .h10 | exact .h11 | exact .h12 | exact .h13 | exact .h14))) rfl ?_)
  rintro _ w ⟨rfl, hw⟩; replace hS := hS.bel hw
  refine WL.op rfl (opW.not rfl ?_)
  refine WL.op rfl (opW.assignB rfl ?_)
  refine WL.nil ?_
  refine thenQ_n (hK3 _ _ ?_)
  refine WC.cond _ rfl (fun hc0 => ?_) (fun hc0 => ?_)
  ·
    have hr0 := hc0
    try simp only [decide_eq_true_eq, decide_eq_false_iff_not, Bool.and_eq_true, Bool.or_eq_true, Bool.and_eq_false_iff, Bool.or_eq_false_iff, Bool.not_eq_true', Bool.not_eq_false', Int.not_lt, Int.not_le] at hc0
    simp at hr0
  ·
    have hr0 := hc0
    try simp only [decide_eq_true_eq, decide_eq_false_iff_not, Bool.and_eq_true, Bool.or_eq_true, Bool.and_eq_false_iff, Bool.or_eq_false_iff, Bool.not_eq_true', Bool.not_eq_false', Int.not_lt, Int.not_le] at hc0
    refine WC.mid (fun f w => ∃ bb : Bool, Fits [(0, .pointer (some ⟨p, 0, none⟩)), (2, v), (4, .pointer (some ⟨b4, 0, none⟩)), (13, .bool bb)] f ∧ St wb (blkE b4 (Enc.enc t) 36 :: blkE p (Enc.enc (TbS.mk (some d.r))) 59 :: mapE d.r Prod.fst d.kvs :: (ownsL 36 d.kvs ++ S)) w ∧ (bb = true → ¬ (1 ≤ l.length ∧ l.length ≤ 256)) ∧ (bb = false → 1 ≤ l.length ∧ l.length ≤ 256)) ?_ ?_
    ·
      refine WC.seq (fun K4 hK4 => ?_)
      refine WC.region ?_
      refine WL.op rfl (opW.moveV (v := v) rfl ?_)
      refine WL.op rfl (opW.lenV rfl ((hl _ ((hS.sub (S' := ownsL 36 d.kvs ++ S) (by repeat (first | with_reducible exact List.nil_sublist _ | with_reducible exact List.Sublist.refl _ | with_reducible refine List.Sublist.cons₂ _ ?_ | with_reducible refine List.Sublist.cons _ ?_))).sub (List.sublist_append_right _ _)))) ?_)
      refine WL.op rfl (opW.eql rfl rfl ?_)
      refine WL.op rfl (opW.assignB rfl ?_)
      refine WL.nil ?_
      refine thenQ_n (hK4 _ _ ?_)
      refine WC.cond _ rfl (fun hc1 => ?_) (fun hc1 => ?_)
      ·
        have hr1 := hc1
        try simp only [decide_eq_true_eq, decide_eq_false_iff_not, Bool.and_eq_true, Bool.or_eq_true, Bool.and_eq_false_iff, Bool.or_eq_false_iff, Bool.not_eq_true', Bool.not_eq_false', Int.not_lt, Int.not_le] at hc1
        refine WC.skip ?_
        refine thenQ_n ?_
        first | exact ⟨_, ⟨rfl, rfl, rfl, rfl, trivial⟩, hS, fun _ => by omega, fun h => by rw [hr1] at h; cases h⟩ | exact ⟨_, ⟨rfl, rfl, rfl, rfl, trivial⟩, hS, fun h => by simp only [decide_eq_true_eq] at h; omega, fun h => by simp only [decide_eq_false_iff_not] at h; omega⟩
      ·
        have hr1 := hc1
        try simp only [decide_eq_true_eq, decide_eq_false_iff_not, Bool.and_eq_true, Bool.or_eq_true, Bool.and_eq_false_iff, Bool.or_eq_false_iff, Bool.not_eq_true', Bool.not_eq_false', Int.not_lt, Int.not_le] at hc1
        refine WC.region ?_
        refine WL.op rfl (opW.moveV (v := v) rfl ?_)
        refine WL.op rfl (opW.lenV rfl ((hl _ ((hS.sub (S' := ownsL 36 d.kvs ++ S) (by repeat (first | with_reducible exact List.nil_sublist _ | with_reducible exact List.Sublist.refl _ | with_reducible refine List.Sublist.cons₂ _ ?_ | with_reducible refine List.Sublist.cons _ ?_))).sub (List.sublist_append_right _ _)))) ?_)
        refine WL.op rfl (opW.gtr rfl rfl ?_)
        refine WL.op rfl (opW.assignB rfl ?_)
        refine WL.nil ?_
        refine thenQ_n ?_
        first | exact ⟨_, ⟨rfl, rfl, rfl, rfl, trivial⟩, hS, fun _ => by omega, fun h => by rw [hr1] at h; cases h⟩ | exact ⟨_, ⟨rfl, rfl, rfl, rfl, trivial⟩, hS, fun h => by simp only [decide_eq_true_eq] at h; omega, fun h => by simp only [decide_eq_false_iff_not] at h; omega⟩
    ·
      rintro f w ⟨bb, hfit, hS, hb1, hb2⟩
      refine WC.fits _ hfit (fun g => ?_)
      clear hfit
      refine WC.cond _ rfl (fun hc2 => ?_) (fun hc2 => ?_)
      ·
        have hr2 := hc2
        try simp only [decide_eq_true_eq, decide_eq_false_iff_not, Bool.and_eq_true, Bool.or_eq_true, Bool.and_eq_false_iff, Bool.or_eq_false_iff, Bool.not_eq_true', Bool.not_eq_false', Int.not_lt, Int.not_le] at hc2
        refine WC.seq (fun K5 hK5 => ?_)
        refine WC.region ?_
        refine WL.op rfl (opW.assignI rfl ?_)
        refine WL.nil ?_
        refine thenQ_n (hK5 _ _ ?_)
        refine WC.ret ?_
        refine blockQ_r ?_
        refine thenQ_r ?_
        refine bodyQ_ret (.tmpI rfl .nil) ?_
        have hz : putC d t l = 1 := if_neg (hb1 hr2)
        rw [hz]
        exact ⟨d, rfl, fun h => (by cases h), fun _ => rfl, hok, hS.drop1.tbClose d⟩
      ·
        have hr2 := hc2
        try simp only [decide_eq_true_eq, decide_eq_false_iff_not, Bool.and_eq_true, Bool.or_eq_true, Bool.and_eq_false_iff, Bool.or_eq_false_iff, Bool.not_eq_true', Bool.not_eq_false', Int.not_lt, Int.not_le] at hc2
        have hlen := hb2 hr2
        refine WC.skip ?_
        refine blockQ_n ?_
        refine thenQ_n (hK2 _ _ ?_)
        refine WC.seq (fun K6 hK6 => ?_)
        refine WC.seq (fun K7 hK7 => ?_)
        refine WC.draw 11 (.look 0 (.look 1 (.look 2 (.look 3 (.look 4 (.look 5 (.look 6 (.look 7 (.look 8 (.look 9 (.look 10 .nil))))))))))) (by kernel_rfl) (fun _ _ _ h => h) (fun w1 hw1 => ?_)
        replace hS := hS.bel hw1
        have hS1 := hS
        have hT := St.start w1
        generalize hX : (aget t d.kvs).getD nilK = X
        refine ML.look rfl rfl rfl (fun w hw => (by have hS := hS1.bel hw; exact opW.moveV (v := .pointer (some ⟨p, 0, none⟩)) rfl ⟨rfl, rfl⟩)) ?_
        refine ML.look rfl rfl rfl (fun w hw => (by have hS := hS1.bel hw; exact opW.nilCheckB rfl ⟨rfl, rfl⟩)) ?_
        refine ML.look rfl rfl rfl (fun w hw => (by have hS := hS1.bel hw; exact opW.fieldAddrB rfl ⟨rfl, rfl⟩)) ?_
        refine ML.look rfl rfl rfl (fun w hw => (by have hS := hS1.bel hw; exact opW.loadV rfl (hS.ld1 (by first | exact .h0 | exact .h1 | exact .h2 | exact .h3 | exact .h4 | exact .h5 | exact .h6 | exact .h7 | exact .h8 | exact .h9 | exact .h10 | exact .h11 | exact .h12 | exact .h13 | exact .h14) (TbS.at_of _)) ⟨rfl, rfl⟩)) ?_
        refine ML.look rfl rfl rfl (fun w hw => (by have hS := hS1.bel hw; exact opW.loadV rfl (hS.ldA (cs := Enc.enc t) (by first | exact .h0 | exact .h1 | exact .h2 | exact .h3 | exact .h4 | exact .h5 | exact .h6 | exact .h7 | exact .h8 | exact .h9 | exact .h10 | exact .h11 | exact .h12 | exact .h13 | exact .h14) (Enc.size_eq _)) ⟨rfl, rfl⟩)) ?_
        refine ML.look rfl rfl rfl (fun w hw => (by have hS := hS1.bel hw; exact opW.lookup2Z (κ := Key) (ν := Value × List Key) (k := t) (vv := Prod.fst) (z0 := nilK) (u := X) inferInstance (hS.map (by first | exact .h0 | exact .h1 | exact .h2 | exact .h3 | exact .h4 | exact .h5 | exact .h6 | exact .h7 | exact .h8 | exact .h9 | exact .h10 | exact .h11 | exact .h12 | exact .h13 | exact .h14)) rfl rfl hX ⟨rfl, rfl⟩)) ?_
        refine ML.look rfl rfl rfl (fun w hw => (by have hS := hS1.bel hw; exact opW.moveV (v := .tuple #[X.1, .bool (aget t d.kvs).isSome]) rfl ⟨rfl, rfl⟩)) ?_
        refine ML.look rfl rfl rfl (fun w hw => (by have hS := hS1.bel hw; exact opW.extract rfl rfl ⟨rfl, rfl⟩)) ?_
        refine ML.look rfl rfl rfl (fun w hw => (by have hS := hS1.bel hw; exact opW.extract rfl rfl ⟨rfl, rfl⟩)) ?_
        refine ML.look rfl rfl rfl (fun w hw => (by have hS := hS1.bel hw; exact opW.assignV (v := X.1) rfl ⟨rfl, rfl⟩)) ?_
        refine ML.look rfl rfl rfl (fun w hw => (by have hS := hS1.bel hw; exact opW.assignB rfl ⟨rfl, rfl⟩)) ?_
        refine ML.nil ?_
        refine thenQ_n (hK7 _ _ ?_)
        refine WC.seq (fun K8 hK8 => ?_)
        refine WC.region ?_
        refine WL.op rfl (opW.moveB rfl ?_)
        refine WL.nil ?_
        refine thenQ_n (hK8 _ _ ?_)
        refine WC.cond _ rfl (fun hc3 => ?_) (fun hc3 => ?_)
        ·
          have hr3 := hc3
          try simp only [decide_eq_true_eq, decide_eq_false_iff_not, Bool.and_eq_true, Bool.or_eq_true, Bool.and_eq_false_iff, Bool.or_eq_false_iff, Bool.not_eq_true', Bool.not_eq_false', Int.not_lt, Int.not_le] at hc3
          refine WC.seq (fun K9 hK9 => ?_)
          refine WC.region ?_
          refine WL.op rfl (opW.assignI rfl ?_)
          refine WL.nil ?_
          refine thenQ_n (hK9 _ _ ?_)
          refine WC.ret ?_
          refine thenQ_r ?_
          refine bodyQ_ret (.tmpI rfl .nil) ?_
          have hz : putC d t l = 12 := by unfold putC; rw [if_pos hlen, if_pos hr3]
          rw [hz]
          exact ⟨d, rfl, fun h => (by cases h), fun _ => rfl, hok, hS.drop1.tbClose d⟩
        ·
          have hr3 := hc3
          try simp only [decide_eq_true_eq, decide_eq_false_iff_not, Bool.and_eq_true, Bool.or_eq_true, Bool.and_eq_false_iff, Bool.or_eq_false_iff, Bool.not_eq_true', Bool.not_eq_false', Int.not_lt, Int.not_le] at hc3
          have hno : aget t d.kvs = none := by simpa using hr3
          obtain ⟨_, _, _, hmi⟩ := hS.map (r := d.r) (vv := Prod.fst) (kvs := d.kvs) (by first | exact .h0 | exact .h1 | exact .h2 | exact .h3 | exact .h4 | exact .h5 | exact .h6 | exact .h7 | exact .h8 | exact .h9 | exact .h10 | exact .h11 | exact .h12 | exact .h13 | exact .h14)
          have hnd := hmi.2.2
          refine WC.skip ?_
          refine thenQ_n (hK6 _ _ ?_)
          refine WC.seq (fun K10 hK10 => ?_)
          refine WC.draw 7 (.look 0 (.look 1 (.look 2 (.look 3 (.look 4 (.look 5 (.one 6 (.one 7 .nil)))))))) (by kernel_rfl) (fun _ _ _ h => h) (fun w1 hw1 => ?_)
          replace hS := hS.bel hw1
          have hS1 := hS
          have hT := St.start w1
          refine ML.look rfl rfl rfl (fun w hw => (by have hS := hS1.bel hw; exact opW.moveV (v := .pointer (some ⟨p, 0, none⟩)) rfl ⟨rfl, rfl⟩)) ?_
          refine ML.look rfl rfl rfl (fun w hw => (by have hS := hS1.bel hw; exact opW.nilCheckB rfl ⟨rfl, rfl⟩)) ?_
          refine ML.look rfl rfl rfl (fun w hw => (by have hS := hS1.bel hw; exact opW.fieldAddrB rfl ⟨rfl, rfl⟩)) ?_
          refine ML.look rfl rfl rfl (fun w hw => (by have hS := hS1.bel hw; exact opW.loadV rfl (hS.ld1 (by first | exact .h0 | exact .h1 | exact .h2 | exact .h3 | exact .h4 | exact .h5 | exact .h6 | exact .h7 | exact .h8 | exact .h9 | exact .h10 | exact .h11 | exact .h12 | exact .h13 | exact .h14) (TbS.at_of _)) ⟨rfl, rfl⟩)) ?_
          refine ML.look rfl rfl rfl (fun w hw => (by have hS := hS1.bel hw; exact opW.loadV rfl (hS.ldA (cs := Enc.enc t) (by first | exact .h0 | exact .h1 | exact .h2 | exact .h3 | exact .h4 | exact .h5 | exact .h6 | exact .h7 | exact .h8 | exact .h9 | exact .h10 | exact .h11 | exact .h12 | exact .h13 | exact .h14) (Enc.size_eq _)) ⟨rfl, rfl⟩)) ?_
          refine ML.look rfl rfl rfl (fun w hw => (by have hS := hS1.bel hw; exact opW.moveV (v := v) rfl ⟨rfl, rfl⟩)) ?_
          refine ML.one rfl rfl rfl (opW.call (copied_ok _ v l (hl _ ((hS.sub (S' := ownsL 36 d.kvs ++ S) (by repeat (first | with_reducible exact List.nil_sublist _ | with_reducible exact List.Sublist.refl _ | with_reducible refine List.Sublist.cons₂ _ ?_ | with_reducible refine List.Sublist.cons _ ?_))).sub (List.sublist_append_right _ _))) (by omega)) rfl ?_)
          rintro v36 w ⟨hv36, hw⟩
          replace hT := hT.newOwn hw hv36.1 hv36.2
          refine ⟨hT.old, ?_⟩
          have hS := hS1.merge hT
          try simp only [List.cons_append, List.nil_append] at hS
          refine ML.put0 rfl rfl rfl (opW.mapUpdate (κ := Key) (ν := Value × List Key) (k := t) (v := (v36, l)) (vv := Prod.fst) hS (by first | exact .h0 | exact .h1 | exact .h2 | exact .h3 | exact .h4 | exact .h5 | exact .h6 | exact .h7 | exact .h8 | exact .h9 | exact .h10 | exact .h11 | exact .h12 | exact .h13 | exact .h14) rfl rfl rfl ?_)
          intro w hS; replace hS := hS _ (by first | exact .h0 | exact .h1 | exact .h2 | exact .h3 | exact .h4 | exact .h5 | exact .h6 | exact .h7 | exact .h8 | exact .h9 | exact .h10 | exact .h11 | exact .h12 | exact .h13 | exact .h14)
          refine ML.nil ?_
          refine thenQ_n (hK10 _ _ ?_)
          refine WC.seq (fun K11 hK11 => ?_)
          refine WC.region ?_
          refine WL.op rfl (opW.assignI rfl ?_)
          refine WL.nil ?_
          refine thenQ_n (hK11 _ _ ?_)
          refine WC.ret ?_
          refine bodyQ_ret (.tmpI rfl .nil) ?_
          replace hS := hS.swap.drop1.ownNew [_, _] hno hnd
          have hz : putC d t l = 0 := by unfold putC; rw [if_pos hlen, if_neg (by rw [hno]; decide)]
          rw [hz]
          have hfd : ∀ k, TbD.find ⟨d.r, aput t (v36, l) d.kvs⟩ k = if k = t then some l else d.find k := by
            intro k
            unfold TbD.find
            simp only [aget_aput]
            by_cases e : k = t
            · rw [if_pos e, if_pos e]; rfl
            · rw [if_neg e, if_neg e]
          refine ⟨⟨d.r, aput t (v36, l) d.kvs⟩, rfl, fun _ => hfd, fun h => absurd rfl h, fun k l' h => ?_, hS.tbClose ⟨d.r, aput t (v36, l) d.kvs⟩⟩
          rw [hfd] at h
          split at h
          · cases h; exact hlen
          · exact hok k l' h

theorem resolve_ok (w0 : World) (p : Nat) (d : TbD) (v : Value) (xs : List Lookup) (ls : List LkM) (ha : TbAt w0 p d) (hx : SlR w0 v xs) (hls : LkIs w0 xs ls) (hb : lenL ls ≤ 50000) : Ret Try.prog 12 #[.pointer (some ⟨p, 0, none⟩), v] w0 (fun u w' => ∃ v1 v2 e a b, u = .tuple #[v1, v2, .int .i64 e] ∧ St w0 [ownE v1 36 a, ownE v2 36 b] w' ∧ ResIs d.find ls e a b) := by
  refine Ret.enter (args := [.pointer (some ⟨p, 0, none⟩), v]) Try.func12 rfl Try.ntmps12 Try.results12 rfl ?_
  have hS := St.start w0
  refine WC.seq (fun K1 hK1 => ?_)
  refine WC.region ?_
  refine WL.op rfl (opW.assignV (v := .slice none 0 0) rfl ?_)
  refine WL.op rfl (opW.assignV (v := .slice none 0 0) rfl ?_)
  refine WL.op rfl (opW.assignI rfl ?_)
  refine WL.nil ?_
  refine thenQ_n (hK1 _ _ ?_)
  refine WC.seq (fun K2 hK2 => ?_)
  refine WC.seq (fun K3 hK3 => ?_)
  refine WC.region ?_
  refine WL.op rfl (opW.moveV (v := .pointer (some ⟨p, 0, none⟩)) rfl ?_)
  refine WL.op rfl (opW.call (there_ok _ p d.r (ha.1.bel hS.old)) rfl ?_)
  rintro _ w ⟨rfl, hw⟩; replace hS := hS.bel hw
  refine WL.op rfl (opW.not rfl ?_)
  refine WL.nil ?_
  refine thenQ_n (hK3 _ _ ?_)
  refine WC.cond _ rfl (fun hc0 => ?_) (fun hc0 => ?_)
  ·
    have hr0 := hc0
    try simp only [decide_eq_true_eq, decide_eq_false_iff_not, Bool.and_eq_true, Bool.or_eq_true, Bool.and_eq_false_iff, Bool.or_eq_false_iff, Bool.not_eq_true', Bool.not_eq_false', Int.not_lt, Int.not_le] at hc0
    simp at hr0
  ·
    have hr0 := hc0
    try simp only [decide_eq_true_eq, decide_eq_false_iff_not, Bool.and_eq_true, Bool.or_eq_true, Bool.and_eq_false_iff, Bool.or_eq_false_iff, Bool.not_eq_true', Bool.not_eq_false', Int.not_lt, Int.not_le] at hc0
    refine WC.skip ?_
    refine thenQ_n (hK2 _ _ ?_)
    refine WC.seq (fun K4 hK4 => ?_)
    refine WC.seq (fun K5 hK5 => ?_)
    refine WC.region ?_
    refine WL.op rfl (opW.moveV (v := v) rfl ?_)
    refine WL.op rfl (opW.lenV rfl ((hx.bel hS.old)) ?_)
    refine WL.op rfl (opW.moveI rfl ?_)
    refine WL.nil ?_
    refine thenQ_n (hK5 _ _ ?_)
    refine WC.block ?_
    refine WC.loop (fun q f w => ∃ (k : Nat) (vw vr : Value) (W Rd : List Key), Fits [(0, .pointer (some ⟨p, 0, none⟩)), (4, vw), (5, vr), (16, v), (17, .int .i64 (xs.length : Int)), (18, .int .i64 (k : Int))] f ∧ St w0 [ownE vw 36 W, ownE vr 36 Rd] w ∧ resF d.find (ls.take k) = .ok W Rd ∧ k ≤ xs.length ∧ q = xs.length - k) (xs.length) ?_ ?_
    ·
      exact ⟨0, _, _, [], [], ⟨rfl, rfl, rfl, rfl, rfl, rfl, trivial⟩, (hS.nilOwn 36).nilOwn 36, rfl, Nat.zero_le _, rfl⟩
    ·
      rintro q f w ⟨k, vw, vr, W, Rd, hfit, hS, hres, hk0, hm⟩
      refine WC.fits _ hfit (fun g => ?_)
      clear hfit
      refine WC.seq (fun K6 hK6 => ?_)
      refine WC.region ?_
      refine WL.op rfl (opW.lss rfl rfl ?_)
      refine WL.nil ?_
      refine thenQ_n (hK6 _ _ ?_)
      refine WC.seq (fun K7 hK7 => ?_)
      refine WC.cond _ rfl (fun hc1 => ?_) (fun hc1 => ?_)
      ·
        have hr1 := hc1
        try simp only [decide_eq_true_eq, decide_eq_false_iff_not, Bool.and_eq_true, Bool.or_eq_true, Bool.and_eq_false_iff, Bool.or_eq_false_iff, Bool.not_eq_true', Bool.not_eq_false', Int.not_lt, Int.not_le] at hc1
        have hkl : k < xs.length := by omega
        have hlen := hls.len
        have hkm : k < ls.length := by omega
        obtain ⟨et, hlw, hlr⟩ := hls.at hkl hkm
        have hle := hx.le
        simp only [maxLen] at hle
        have hln := lenL_step hkm
        have hlt := lenL_take ls (k + 1)
        have hrl := resF_len _ _ _ _ hres
        refine WC.skip ?_
        refine thenQ_n (hK7 _ _ ?_)
        refine WC.seq (fun K8 hK8 => ?_)
        refine WC.block ?_
        refine WC.seq (fun K9 hK9 => ?_)
        refine WC.region ?_
        refine WL.op rfl (opW.idxV rfl ((hx.bel hS.old)) rfl (by omega) ?_)
        refine WL.op rfl (opW.loadV rfl (((hx.bel hS.old).isPt hkl).ldA (Enc.size_eq xs[k])) ?_)
        refine WL.op rfl (opW.allocA hS ?_)
        intro b8 w _ hS
        refine WL.op0 (opW.storeE hS rfl rfl (by first | exact .h0 | exact .h1 | exact .h2 | exact .h3 | exact .h4 | exact .h5 | exact .h6 | exact .h7 | exact .h8 | exact .h9 | exact .h10 | exact .h11 | exact .h12 | exact .h13 | exact .h14) (by first | rfl | exact Enc.size_eq _) ?_)
        intro w hS; replace hS := hS _ (by first | exact .h0 | exact .h1 | exact .h2 | exact .h3 | exact .h4 | exact .h5 | exact .h6 | exact .h7 | exact .h8 | exact .h9 | exact .h10 | exact .h11 | exact .h12 | exact .h13 | exact .h14)
        refine WL.nil ?_
        refine thenQ_n (hK9 _ _ ?_)
        refine WC.seq (fun K10 hK10 => ?_)
        refine WC.draw 12 (.look 0 (.look 1 (.look 2 (.look 3 (.look 4 (.look 5 (.look 6 (.look 7 (.look 8 (.look 9 (.look 10 (.look 11 .nil)))))))))))) (by kernel_rfl) (fun _ _ _ h => h) (fun w1 hw1 => ?_)
        replace hS := hS.bel hw1
        have hS1 := hS
        have hT := St.start w1
        generalize hX : (aget xs[k].table d.kvs).getD nilK = X
        refine ML.look rfl rfl rfl (fun w hw => (by have hS := hS1.bel hw; exact opW.moveV (v := .pointer (some ⟨p, 0, none⟩)) rfl ⟨rfl, rfl⟩)) ?_
        refine ML.look rfl rfl rfl (fun w hw => (by have hS := hS1.bel hw; exact opW.nilCheckB rfl ⟨rfl, rfl⟩)) ?_
        refine ML.look rfl rfl rfl (fun w hw => (by have hS := hS1.bel hw; exact opW.fieldAddrB rfl ⟨rfl, rfl⟩)) ?_
        refine ML.look rfl rfl rfl (fun w hw => (by have hS := hS1.bel hw; exact opW.loadV rfl ((ha.1.bel hS.old).at1 (TbS.at_of _)) ⟨rfl, rfl⟩)) ?_
        refine ML.look rfl rfl rfl (fun w hw => (by have hS := hS1.bel hw; exact opW.fieldAddrB rfl ⟨rfl, rfl⟩)) ?_
        refine ML.look rfl rfl rfl (fun w hw => (by have hS := hS1.bel hw; exact opW.loadV rfl (hS.ldF (by first | exact .h0 | exact .h1 | exact .h2 | exact .h3 | exact .h4 | exact .h5 | exact .h6 | exact .h7 | exact .h8 | exact .h9 | exact .h10 | exact .h11 | exact .h12 | exact .h13 | exact .h14) (Lookup.ex_table _) (by rw [Enc.size_eq]; decide)) ⟨rfl, rfl⟩)) ?_
        refine ML.look rfl rfl rfl (fun w hw => (by have hS := hS1.bel hw; exact opW.lookup2Z (κ := Key) (ν := Value × List Key) (k := xs[k].table) (vv := Prod.fst) (z0 := nilK) (u := X) inferInstance (ha.2.1.bel hS.old) rfl rfl hX ⟨rfl, rfl⟩)) ?_
        refine ML.look rfl rfl rfl (fun w hw => (by have hS := hS1.bel hw; exact opW.moveV (v := .tuple #[X.1, .bool (aget xs[k].table d.kvs).isSome]) rfl ⟨rfl, rfl⟩)) ?_
        refine ML.look rfl rfl rfl (fun w hw => (by have hS := hS1.bel hw; exact opW.extract rfl rfl ⟨rfl, rfl⟩)) ?_
        refine ML.look rfl rfl rfl (fun w hw => (by have hS := hS1.bel hw; exact opW.extract rfl rfl ⟨rfl, rfl⟩)) ?_
        refine ML.look rfl rfl rfl (fun w hw => (by have hS := hS1.bel hw; exact opW.assignV (v := X.1) rfl ⟨rfl, rfl⟩)) ?_
        refine ML.look rfl rfl rfl (fun w hw => (by have hS := hS1.bel hw; exact opW.assignB rfl ⟨rfl, rfl⟩)) ?_
        refine ML.nil ?_
        refine thenQ_n (hK10 _ _ ?_)
        refine WC.seq (fun K11 hK11 => ?_)
        refine WC.seq (fun K12 hK12 => ?_)
        refine WC.region ?_
        refine WL.op rfl (opW.moveB rfl ?_)
        refine WL.op rfl (opW.not rfl ?_)
        refine WL.nil ?_
        refine thenQ_n (hK12 _ _ ?_)
        refine WC.cond _ rfl (fun hc2 => ?_) (fun hc2 => ?_)
        ·
          have hr2 := hc2
          try simp only [decide_eq_true_eq, decide_eq_false_iff_not, Bool.and_eq_true, Bool.or_eq_true, Bool.and_eq_false_iff, Bool.or_eq_false_iff, Bool.not_eq_true', Bool.not_eq_false', Int.not_lt, Int.not_le] at hc2
          refine WC.seq (fun K13 hK13 => ?_)
          refine WC.region ?_
          refine WL.op rfl (opW.assignV (v := .slice none 0 0) rfl ?_)
          refine WL.op rfl (opW.assignV (v := .slice none 0 0) rfl ?_)
          refine WL.op rfl (opW.assignI rfl ?_)
          refine WL.nil ?_
          refine thenQ_n (hK13 _ _ ?_)
          refine WC.ret ?_
          refine thenQ_r ?_
          refine blockQ_r ?_
          refine thenQ_r ?_
          refine thenQ_r ?_
          refine blockQ_r ?_
          refine thenQ_r ?_
          refine bodyQ_ret (.tmpV (v := .slice none 0 0) rfl (.tmpV (v := .slice none 0 0) rfl (.tmpI rfl .nil))) ?_
          have hno : aget xs[k].table d.kvs = none := by simpa using hr2
          refine ⟨_, _, _, [], [], rfl, ((hS.sub (S' := []) (List.nil_sublist _)).nilOwn 36).nilOwn 36, .inr ⟨?_, by decide, rfl, rfl⟩⟩
          rw [show ls = ls.take k ++ ls.drop k from (List.take_append_drop _ _).symm, resF_append, hres, List.drop_eq_getElem_cons hkm]
          simp only [resF]
          rw [← et]
          unfold TbD.find
          rw [hno]; rfl
        ·
          have hr2 := hc2
          try simp only [decide_eq_true_eq, decide_eq_false_iff_not, Bool.and_eq_true, Bool.or_eq_true, Bool.and_eq_false_iff, Bool.or_eq_false_iff, Bool.not_eq_true', Bool.not_eq_false', Int.not_lt, Int.not_le] at hc2
          have hrs : (aget xs[k].table d.kvs).isSome = true := by simpa using hr2
          have hso : aget xs[k].table d.kvs = some X := by
            rw [← hX]
            cases h : aget xs[k].table d.kvs with
            | none => rw [h] at hrs; simp at hrs
            | some x => rfl
          have hfd : d.find ls[k].table = some X.2 := by rw [← et]; unfold TbD.find; rw [hso]; rfl
          have hXs := ha.2.2 _ _ hso
          refine WC.skip ?_
          refine thenQ_n (hK11 _ _ ?_)
          refine WC.seq (fun K14 hK14 => ?_)
          refine WC.region ?_
          refine WL.op rfl (opW.assignB rfl ?_)
          refine WL.op rfl (opW.assignB rfl ?_)
          refine WL.nil ?_
          refine thenQ_n (hK14 _ _ ?_)
          refine WC.seq (fun K15 hK15 => ?_)
          refine WC.region ?_
          refine WL.op rfl (opW.moveV (v := vw) rfl ?_)
          refine WL.op rfl (opW.moveV (v := X.1) rfl ?_)
          refine WL.op rfl (opW.fieldAddrB rfl ?_)
          refine WL.op rfl (opW.loadV rfl (hS.ld1 (by first | exact .h0 | exact .h1 | exact .h2 | exact .h3 | exact .h4 | exact .h5 | exact .h6 | exact .h7 | exact .h8 | exact .h9 | exact .h10 | exact .h11 | exact .h12 | exact .h13 | exact .h14) (Lookup.at_writes _)) ?_)
          refine WL.op rfl (opW.call (picked_ok w0 _ [blkE b8 (Enc.enc xs[k]) 45, ownE vr 36 Rd] vw W X.1 X.2 xs[k].writes.v ls[k].ws (hS.pick (by first | exact .h0 | exact .h1 | exact .h2 | exact .h3 | exact .h4 | exact .h5 | exact .h6 | exact .h7 | exact .h8 | exact .h9 | exact .h10 | exact .h11 | exact .h12 | exact .h13 | exact .h14)) (fun w h => hXs.bel h.old) (fun w h => hlw.bel h.old) (by omega)) rfl ?_)
          rintro _ w ⟨v39, b39, y39, rfl, hS, hp39⟩
          refine WL.op rfl (opW.moveV (v := .tuple #[v39, .bool b39]) rfl ?_)
          refine WL.op rfl (opW.extract rfl rfl ?_)
          refine WL.op rfl (opW.extract rfl rfl ?_)
          refine WL.op rfl (opW.assignV (v := v39) rfl ?_)
          refine WL.op rfl (opW.assignB rfl ?_)
          refine WL.nil ?_
          refine thenQ_n (hK15 _ _ ?_)
          refine WC.seq (fun K16 hK16 => ?_)
          refine WC.region ?_
          refine WL.op rfl (opW.moveV (v := vr) rfl ?_)
          refine WL.op rfl (opW.moveV (v := X.1) rfl ?_)
          refine WL.op rfl (opW.fieldAddrB rfl ?_)
          refine WL.op rfl (opW.loadV rfl (hS.ld1 (by first | exact .h0 | exact .h1 | exact .h2 | exact .h3 | exact .h4 | exact .h5 | exact .h6 | exact .h7 | exact .h8 | exact .h9 | exact .h10 | exact .h11 | exact .h12 | exact .h13 | exact .h14) (Lookup.at_reads _)) ?_)
          refine WL.op rfl (opW.call (picked_ok w0 _ [ownE v39 36 y39, blkE b8 (Enc.enc xs[k]) 45] vr Rd X.1 X.2 xs[k].reads.v ls[k].rs (hS.pick (by first | exact .h0 | exact .h1 | exact .h2 | exact .h3 | exact .h4 | exact .h5 | exact .h6 | exact .h7 | exact .h8 | exact .h9 | exact .h10 | exact .h11 | exact .h12 | exact .h13 | exact .h14)) (fun w h => hXs.bel h.old) (fun w h => hlr.bel h.old) (by omega)) rfl ?_)
          rintro _ w ⟨v47, b47, y47, rfl, hS, hp47⟩
          refine WL.op rfl (opW.moveV (v := .tuple #[v47, .bool b47]) rfl ?_)
          refine WL.op rfl (opW.extract rfl rfl ?_)
          refine WL.op rfl (opW.extract rfl rfl ?_)
          refine WL.op rfl (opW.assignV (v := v47) rfl ?_)
          refine WL.op rfl (opW.assignB rfl ?_)
          refine WL.nil ?_
          refine thenQ_n (hK16 _ _ ?_)
          refine WC.seq (fun K17 hK17 => ?_)
          refine WC.region ?_
          refine WL.op rfl (opW.moveB rfl ?_)
          refine WL.op rfl (opW.not rfl ?_)
          refine WL.op rfl (opW.moveB rfl ?_)
          refine WL.gd _ 52 _ rfl rfl rfl rfl (fun hg53 => opW.moveB rfl ⟨rfl, Bel.refl _⟩) (fun w hw => ?_)
          replace hS := hS.bel hw
          refine WL.gd _ 52 _ rfl rfl rfl rfl (fun hg54 => opW.not (by first | exact gv_of rfl hg54 | rfl) ⟨rfl, Bel.refl _⟩) (fun w hw => ?_)
          replace hS := hS.bel hw
          refine WL.op rfl (opW.pickOr rfl rfl (by first | rfl) ?_)
          refine WL.nil ?_
          refine thenQ_n (hK17 _ _ ?_)
          refine WC.cond _ rfl (fun hc3 => ?_) (fun hc3 => ?_)
          ·
            have hr3 := hc3
            try simp only [decide_eq_true_eq, decide_eq_false_iff_not, Bool.and_eq_true, Bool.or_eq_true, Bool.and_eq_false_iff, Bool.or_eq_false_iff, Bool.not_eq_true', Bool.not_eq_false', Int.not_lt, Int.not_le] at hc3
            refine WC.seq (fun K18 hK18 => ?_)
            refine WC.region ?_
            refine WL.op rfl (opW.assignV (v := .slice none 0 0) rfl ?_)
            refine WL.op rfl (opW.assignV (v := .slice none 0 0) rfl ?_)
            refine WL.op rfl (opW.assignI rfl ?_)
            refine WL.nil ?_
            refine thenQ_n (hK18 _ _ ?_)
            refine WC.ret ?_
            refine blockQ_r ?_
            refine thenQ_r ?_
            refine thenQ_r ?_
            refine blockQ_r ?_
            refine thenQ_r ?_
            refine bodyQ_ret (.tmpV (v := .slice none 0 0) rfl (.tmpV (v := .slice none 0 0) rfl (.tmpI rfl .nil))) ?_
            refine ⟨_, _, _, [], [], rfl, ((hS.sub (S' := []) (List.nil_sublist _)).nilOwn 36).nilOwn 36, .inr ⟨?_, by decide, rfl, rfl⟩⟩
            rw [show ls = ls.take k ++ ls.drop k from (List.take_append_drop _ _).symm, resF_append, hres, List.drop_eq_getElem_cons hkm]
            simp only [resF]
            rw [hfd]
            rcases hp39 with ⟨ys, h1, rfl, rfl⟩ | ⟨h1, rfl, _⟩
            · rcases hp47 with ⟨zs, h2, rfl, rfl⟩ | ⟨h2, rfl, _⟩
              · simp at hr3
              · simp only [h1, h2]
            · simp only [h1]
          ·
            have hr3 := hc3
            try simp only [decide_eq_true_eq, decide_eq_false_iff_not, Bool.and_eq_true, Bool.or_eq_true, Bool.and_eq_false_iff, Bool.or_eq_false_iff, Bool.not_eq_true', Bool.not_eq_false', Int.not_lt, Int.not_le] at hc3
            obtain ⟨ys, h1, rfl, rfl⟩ : ∃ ys, pick X.2 ls[k].ws = some ys ∧ b39 = true ∧ y39 = W ++ ys := by
              rcases hp39 with h | ⟨_, rfl, _⟩
              · exact h
              · simp at hr3
            obtain ⟨zs, h2, rfl, rfl⟩ : ∃ zs, pick X.2 ls[k].rs = some zs ∧ b47 = true ∧ y47 = Rd ++ zs := by
              rcases hp47 with h | ⟨_, rfl, _⟩
              · exact h
              · simp at hr3
            have hst2 : resF d.find (ls.take (k + 1)) = .ok (W ++ ys) (Rd ++ zs) := by
              rw [List.take_succ_eq_append_getElem hkm, resF_append, hres]
              simp only [resF]
              rw [hfd]
              simp only [h1, h2, List.append_nil]
            replace hS := (hS.swap).sub (S' := [ownE v39 36 (W ++ ys), ownE v47 36 (Rd ++ zs)]) (by repeat (first | with_reducible exact List.nil_sublist _ | with_reducible exact List.Sublist.refl _ | with_reducible refine List.Sublist.cons₂ _ ?_ | with_reducible refine List.Sublist.cons _ ?_))
            refine WC.skip ?_
            refine blockQ_n ?_
            refine thenQ_n (hK8 _ _ ?_)
            refine WC.region ?_
            refine WL.op rfl (opW.add rfl rfl (wrap_i64 (by omega)) ?_)
            refine WL.op rfl (opW.moveI rfl ?_)
            refine WL.nil ?_
            refine thenQ_n ?_
            exact ⟨xs.length - (k + 1), by omega, k + 1, v39, v47, _, _, ⟨rfl, rfl, rfl, rfl, rfl, congrArg (Value.int .i64) (by omega), trivial⟩, hS, hst2, by omega, rfl⟩
      ·
        have hr1 := hc1
        try simp only [decide_eq_true_eq, decide_eq_false_iff_not, Bool.and_eq_true, Bool.or_eq_true, Bool.and_eq_false_iff, Bool.or_eq_false_iff, Bool.not_eq_true', Bool.not_eq_false', Int.not_lt, Int.not_le] at hc1
        have hkk : k = xs.length := by omega
        rw [List.take_of_length_le (by rw [hls.len]; omega)] at hres
        refine WC.exit ?_
        refine thenQ_e ?_
        refine thenQ_e ?_
        refine blockQ_hit ?_
        refine thenQ_n (hK4 _ _ ?_)
        refine WC.seq (fun K19 hK19 => ?_)
        refine WC.region ?_
        refine WL.op rfl (opW.moveV (v := vw) rfl ?_)
        refine WL.op rfl (opW.call (clip_k _ _ W (hS.sl (by first | exact .h0 | exact .h1 | exact .h2 | exact .h3 | exact .h4 | exact .h5 | exact .h6 | exact .h7 | exact .h8 | exact .h9 | exact .h10 | exact .h11 | exact .h12 | exact .h13 | exact .h14))) rfl ?_)
        rintro v58 w ⟨hv58, hw⟩; replace hS := hS.bel hw
        refine WL.op rfl (opW.moveV (v := vr) rfl ?_)
        refine WL.op rfl (opW.call (clip_k _ _ Rd (hS.sl (by first | exact .h0 | exact .h1 | exact .h2 | exact .h3 | exact .h4 | exact .h5 | exact .h6 | exact .h7 | exact .h8 | exact .h9 | exact .h10 | exact .h11 | exact .h12 | exact .h13 | exact .h14))) rfl ?_)
        rintro v60 w ⟨hv60, hw⟩; replace hS := hS.bel hw
        refine WL.op rfl (opW.assignV (v := v58) rfl ?_)
        refine WL.op rfl (opW.assignV (v := v60) rfl ?_)
        refine WL.op rfl (opW.assignI rfl ?_)
        refine WL.nil ?_
        refine thenQ_n (hK19 _ _ ?_)
        refine WC.ret ?_
        refine bodyQ_ret (.tmpV (v := v58) rfl (.tmpV (v := v60) rfl (.tmpI rfl .nil))) ?_
        subst hv58; subst hv60
        replace hS := hS.cutOwn (S' := [ownE (cutV vw 0 W.length W.length (Enc.sz (Vector UInt8 32))) 36 W, ownE vr 36 Rd]) .here
        replace hS := hS.cutOwn (S' := [ownE (cutV vw 0 W.length W.length (Enc.sz (Vector UInt8 32))) 36 W, ownE (cutV vr 0 Rd.length Rd.length (Enc.sz (Vector UInt8 32))) 36 Rd]) (.there .here)
        exact ⟨_, _, _, W, Rd, rfl, hS, .inl ⟨hres, rfl⟩⟩

end Go.Fer
