/- Put, Copy -/
import Derived.Test.YtpaeddbfidmjbaaI
import Derived.Test.YtpaeddbfidmjbaaClones
set_option linter.all false
namespace Go.Fer
open Go Go.Proofs Go.RowKit

theorem put_ok2 (wb w0 : World) (S : List Ent) (p : Nat) (d : TbD) (t : Key) (v : Value) (l : List Key) (hS0 : St wb (tbE p d :: S) w0) (hok : TbOk d) (hl : ∀ w, St wb S w → SlR w v l) : Ret Try.prog 15 #[.pointer (some ⟨p, 0, none⟩), .agg (Enc.enc t), v] w0 (fun u w' => ∃ d', u = .int .i64 (putC d t l) ∧ (putC d t l = 0 → ∀ k, d'.find k = if k = t then some l else d.find k) ∧ (putC d t l ≠ 0 → d' = d) ∧ SubM d d' ∧ TbOk d' ∧ St wb (tbE p d' :: S) w') := by
  refine Ret.enter (args := [.pointer (some ⟨p, 0, none⟩), .agg (Enc.enc t), v]) Try.func15 rfl Try.ntmps15 Try.results15 rfl ?_
  have hS := St.start w0
  replace hS := hS0.tbOpen
  refine WC.seq (fun K1 hK1 => ?_)
  refine WC.region ?_
  refine WL.op rfl (opW.boxA hS rfl ?_)
  intro b4 w _ hS
  refine WL.op rfl (opW.assignI rfl ?_)
  refine WL.nil ?_
  refine thenQ_n (hK1 _ _ ?_)
  refine WC.seq (fun K2 hK2 => ?_)
  refine WC.block ?_
  refine WC.seq (fun K3 hK3 => ?_)
  refine WC.region ?_
  refine WL.op rfl (opW.moveV (v := .pointer (some ⟨p, 0, none⟩)) rfl ?_)
  refine WL.op rfl (opW.call (there_ok _ p d.r (hS.pt (by first | exact .h0 | exact .h1 | exact .h2 | exact .h3 | exact .h4 | exact .h5 | exact .h6 | exact .h7 | exact .h8 | exact .h9 | exact .h10 | exact .h11 | exact .h12 | exact .h13 | exact .h14))) rfl ?_)
  rintro _ w ⟨rfl, hw⟩; replace hS := hS.bel hw
  refine WL.op rfl (opW.not rfl ?_)
  refine WL.op rfl (opW.assignB rfl ?_)
  refine WL.nil ?_
  refine thenQ_n (hK3 _ _ ?_)
  refine WC.cond _ rfl (fun hc0 => ?_) (fun hc0 => ?_)
  ·
    have hr0 := hc0
    try simp only [decide_eq_true_eq, decide_eq_false_iff_not, Bool.and_eq_true, Bool.or_eq_true, Bool.and_eq_false_iff, Bool.or_eq_false_iff, Bool.not_eq_true', Bool.not_eq_false', Int.not_lt, Int.not_le] at hc0
    simp at hr0
  ·
    have hr0 := hc0
    try simp only [decide_eq_true_eq, decide_eq_false_iff_not, Bool.and_eq_true, Bool.or_eq_true, Bool.and_eq_false_iff, Bool.or_eq_false_iff, Bool.not_eq_true', Bool.not_eq_false', Int.not_lt, Int.not_le] at hc0
    refine WC.mid (fun f w => ∃ bb : Bool, Fits [(0, .pointer (some ⟨p, 0, none⟩)), (2, v), (4, .pointer (some ⟨b4, 0, none⟩)), (13, .bool bb)] f ∧ St wb (blkE b4 (Enc.enc t) 36 :: blkE p (Enc.enc (TbS.mk (some d.r))) 59 :: mapE d.r Prod.fst d.kvs :: (ownsL 36 d.kvs ++ S)) w ∧ (bb = true → ¬ (1 ≤ l.length ∧ l.length ≤ 256)) ∧ (bb = false → 1 ≤ l.length ∧ l.length ≤ 256)) ?_ ?_
    ·
      refine WC.seq (fun K4 hK4 => ?_)
      refine WC.region ?_
      refine WL.op rfl (opW.moveV (v := v) rfl ?_)
      refine WL.op rfl (opW.lenV rfl ((hl _ ((hS.sub (S' := ownsL 36 d.kvs ++ S) (by repeat (first | with_reducible exact List.nil_sublist _ | with_reducible exact List.Sublist.refl _ | with_reducible refine List.Sublist.cons₂ _ ?_ | with_reducible refine List.Sublist.cons _ ?_))).sub (List.sublist_append_right _ _)))) ?_)
      refine WL.op rfl (opW.eql rfl rfl ?_)
      refine WL.op rfl (opW.assignB rfl ?_)
      refine WL.nil ?_
      refine thenQ_n (hK4 _ _ ?_)
      refine WC.cond _ rfl (fun hc1 => ?_) (fun hc1 => ?_)
      ·
        have hr1 := hc1
        try simp only [decide_eq_true_eq, decide_eq_false_iff_not, Bool.and_eq_true, Bool.or_eq_true, Bool.and_eq_false_iff, Bool.or_eq_false_iff, Bool.not_eq_true', Bool.not_eq_false', Int.not_lt, Int.not_le] at hc1
        refine WC.skip ?_
        refine thenQ_n ?_
        first | exact ⟨_, ⟨rfl, rfl, rfl, rfl, trivial⟩, hS, fun _ => by omega, fun h => by rw [hr1] at h; cases h⟩ | exact ⟨_, ⟨rfl, rfl, rfl, rfl, trivial⟩, hS, fun h => by simp only [decide_eq_true_eq] at h; omega, fun h => by simp only [decide_eq_false_iff_not] at h; omega⟩
      ·
        have hr1 := hc1
        try simp only [decide_eq_true_eq, decide_eq_false_iff_not, Bool.and_eq_true, Bool.or_eq_true, Bool.and_eq_false_iff, Bool.or_eq_false_iff, Bool.not_eq_true', Bool.not_eq_false', Int.not_lt, Int.not_le] at hc1
        refine WC.region ?_
        refine WL.op rfl (opW.moveV (v := v) rfl ?_)
        refine WL.op rfl (opW.lenV rfl ((hl _ ((hS.sub (S' := ownsL 36 d.kvs ++ S) (by repeat (first | with_reducible exact List.nil_sublist _ | with_reducible exact List.Sublist.refl _ | with_reducible refine List.Sublist.cons₂ _ ?_ | with_reducible refine List.Sublist.cons _ ?_))).sub (List.sublist_append_right _ _)))) ?_)
        refine WL.op rfl (opW.gtr rfl rfl ?_)
        refine WL.op rfl (opW.assignB rfl ?_)
        refine WL.nil ?_
        refine thenQ_n ?_
        first | exact ⟨_, ⟨rfl, rfl, rfl, rfl, trivial⟩, hS, fun _ => by omega, fun h => by rw [hr1] at h; cases h⟩ | exact ⟨_, ⟨rfl, rfl, rfl, rfl, trivial⟩, hS, fun h => by simp only [decide_eq_true_eq] at h; omega, fun h => by simp only [decide_eq_false_iff_not] at h; omega⟩
    ·
      rintro f w ⟨bb, hfit, hS, hb1, hb2⟩
      refine WC.fits _ hfit (fun g => ?_)
      clear hfit
      refine WC.cond _ rfl (fun hc2 => ?_) (fun hc2 => ?_)
      ·
        have hr2 := hc2
        try simp only [decide_eq_true_eq, decide_eq_false_iff_not, Bool.and_eq_true, Bool.or_eq_true, Bool.and_eq_false_iff, Bool.or_eq_false_iff, Bool.not_eq_true', Bool.not_eq_false', Int.not_lt, Int.not_le] at hc2
        refine WC.seq (fun K5 hK5 => ?_)
        refine WC.region ?_
        refine WL.op rfl (opW.assignI rfl ?_)
        refine WL.nil ?_
        refine thenQ_n (hK5 _ _ ?_)
        refine WC.ret ?_
        refine blockQ_r ?_
        refine thenQ_r ?_
        refine bodyQ_ret (.tmpI rfl .nil) ?_
        have hz : putC d t l = 1 := if_neg (hb1 hr2)
        rw [hz]
        exact ⟨d, rfl, fun h => (by cases h), fun _ => rfl, SubM.refl d, hok, hS.drop1.tbClose d⟩
      ·
        have hr2 := hc2
        try simp only [decide_eq_true_eq, decide_eq_false_iff_not, Bool.and_eq_true, Bool.or_eq_true, Bool.and_eq_false_iff, Bool.or_eq_false_iff, Bool.not_eq_true', Bool.not_eq_false', Int.not_lt, Int.not_le] at hc2
        have hlen := hb2 hr2
        refine WC.skip ?_
        refine blockQ_n ?_
        refine thenQ_n (hK2 _ _ ?_)
        refine WC.seq (fun K6 hK6 => ?_)
        refine WC.seq (fun K7 hK7 => ?_)
        refine WC.draw 11 (.look 0 (.look 1 (.look 2 (.look 3 (.look 4 (.look 5 (.look 6 (.look 7 (.look 8 (.look 9 (.look 10 .nil))))))))))) (by kernel_rfl) (fun _ _ _ h => h) (fun w1 hw1 => ?_)
        replace hS := hS.bel hw1
        have hS1 := hS
        have hT := St.start w1
        generalize hX : (aget t d.kvs).getD nilK = X
        refine ML.look rfl rfl rfl (fun w hw => (by have hS := hS1.bel hw; exact opW.moveV (v := .pointer (some ⟨p, 0, none⟩)) rfl ⟨rfl, rfl⟩)) ?_
        refine ML.look rfl rfl rfl (fun w hw => (by have hS := hS1.bel hw; exact opW.nilCheckB rfl ⟨rfl, rfl⟩)) ?_
        refine ML.look rfl rfl rfl (fun w hw => (by have hS := hS1.bel hw; exact opW.fieldAddrB rfl ⟨rfl, rfl⟩)) ?_
        refine ML.look rfl rfl rfl (fun w hw => (by have hS := hS1.bel hw; exact opW.loadV rfl (hS.ld1 (by first | exact .h0 | exact .h1 | exact .h2 | exact .h3 | exact .h4 | exact .h5 | exact .h6 | exact .h7 | exact .h8 | exact .h9 | exact .h10 | exact .h11 | exact .h12 | exact .h13 | exact .h14) (TbS.at_of _)) ⟨rfl, rfl⟩)) ?_
        refine ML.look rfl rfl rfl (fun w hw => (by have hS := hS1.bel hw; exact opW.loadV rfl (hS.ldA (cs := Enc.enc t) (by first | exact .h0 | exact .h1 | exact .h2 | exact .h3 | exact .h4 | exact .h5 | exact .h6 | exact .h7 | exact .h8 | exact .h9 | exact .h10 | exact .h11 | exact .h12 | exact .h13 | exact .h14) (Enc.size_eq _)) ⟨rfl, rfl⟩)) ?_
        refine ML.look rfl rfl rfl (fun w hw => (by have hS := hS1.bel hw; exact opW.lookup2Z (κ := Key) (ν := Value × List Key) (k := t) (vv := Prod.fst) (z0 := nilK) (u := X) inferInstance (hS.map (by first | exact .h0 | exact .h1 | exact .h2 | exact .h3 | exact .h4 | exact .h5 | exact .h6 | exact .h7 | exact .h8 | exact .h9 | exact .h10 | exact .h11 | exact .h12 | exact .h13 | exact .h14)) rfl rfl hX ⟨rfl, rfl⟩)) ?_
        refine ML.look rfl rfl rfl (fun w hw => (by have hS := hS1.bel hw; exact opW.moveV (v := .tuple #[X.1, .bool (aget t d.kvs).isSome]) rfl ⟨rfl, rfl⟩)) ?_
        refine ML.look rfl rfl rfl (fun w hw => (by have hS := hS1.bel hw; exact opW.extract rfl rfl ⟨rfl, rfl⟩)) ?_
        refine ML.look rfl rfl rfl (fun w hw => (by have hS := hS1.bel hw; exact opW.extract rfl rfl ⟨rfl, rfl⟩)) ?_
        refine ML.look rfl rfl rfl (fun w hw => (by have hS := hS1.bel hw; exact opW.assignV (v := X.1) rfl ⟨rfl, rfl⟩)) ?_
        refine ML.look rfl rfl rfl (fun w hw => (by have hS := hS1.bel hw; exact opW.assignB rfl ⟨rfl, rfl⟩)) ?_
        refine ML.nil ?_
        refine thenQ_n (hK7 _ _ ?_)
        refine WC.seq (fun K8 hK8 => ?_)
        refine WC.region ?_
        refine WL.op rfl (opW.moveB rfl ?_)
        refine WL.nil ?_
        refine thenQ_n (hK8 _ _ ?_)
        refine WC.cond _ rfl (fun hc3 => ?_) (fun hc3 => ?_)
        ·
          have hr3 := hc3
          try simp only [decide_eq_true_eq, decide_eq_false_iff_not, Bool.and_eq_true, Bool.or_eq_true, Bool.and_eq_false_iff, Bool.or_eq_false_iff, Bool.not_eq_true', Bool.not_eq_false', Int.not_lt, Int.not_le] at hc3
          refine WC.seq (fun K9 hK9 => ?_)
          refine WC.region ?_
          refine WL.op rfl (opW.assignI rfl ?_)
          refine WL.nil ?_
          refine thenQ_n (hK9 _ _ ?_)
          refine WC.ret ?_
          refine thenQ_r ?_
          refine bodyQ_ret (.tmpI rfl .nil) ?_
          have hz : putC d t l = 12 := by unfold putC; rw [if_pos hlen, if_pos hr3]
          rw [hz]
          exact ⟨d, rfl, fun h => (by cases h), fun _ => rfl, SubM.refl d, hok, hS.drop1.tbClose d⟩
        ·
          have hr3 := hc3
          try simp only [decide_eq_true_eq, decide_eq_false_iff_not, Bool.and_eq_true, Bool.or_eq_true, Bool.and_eq_false_iff, Bool.or_eq_false_iff, Bool.not_eq_true', Bool.not_eq_false', Int.not_lt, Int.not_le] at hc3
          have hno : aget t d.kvs = none := by simpa using hr3
          obtain ⟨_, _, _, hmi⟩ := hS.map (r := d.r) (vv := Prod.fst) (kvs := d.kvs) (by first | exact .h0 | exact .h1 | exact .h2 | exact .h3 | exact .h4 | exact .h5 | exact .h6 | exact .h7 | exact .h8 | exact .h9 | exact .h10 | exact .h11 | exact .h12 | exact .h13 | exact .h14)
          have hnd := hmi.2.2
          refine WC.skip ?_
          refine thenQ_n (hK6 _ _ ?_)
          refine WC.seq (fun K10 hK10 => ?_)
          refine WC.draw 7 (.look 0 (.look 1 (.look 2 (.look 3 (.look 4 (.look 5 (.one 6 (.one 7 .nil)))))))) (by kernel_rfl) (fun _ _ _ h => h) (fun w1 hw1 => ?_)
          replace hS := hS.bel hw1
          have hS1 := hS
          have hT := St.start w1
          refine ML.look rfl rfl rfl (fun w hw => (by have hS := hS1.bel hw; exact opW.moveV (v := .pointer (some ⟨p, 0, none⟩)) rfl ⟨rfl, rfl⟩)) ?_
          refine ML.look rfl rfl rfl (fun w hw => (by have hS := hS1.bel hw; exact opW.nilCheckB rfl ⟨rfl, rfl⟩)) ?_
          refine ML.look rfl rfl rfl (fun w hw => (by have hS := hS1.bel hw; exact opW.fieldAddrB rfl ⟨rfl, rfl⟩)) ?_
          refine ML.look rfl rfl rfl (fun w hw => (by have hS := hS1.bel hw; exact opW.loadV rfl (hS.ld1 (by first | exact .h0 | exact .h1 | exact .h2 | exact .h3 | exact .h4 | exact .h5 | exact .h6 | exact .h7 | exact .h8 | exact .h9 | exact .h10 | exact .h11 | exact .h12 | exact .h13 | exact .h14) (TbS.at_of _)) ⟨rfl, rfl⟩)) ?_
          refine ML.look rfl rfl rfl (fun w hw => (by have hS := hS1.bel hw; exact opW.loadV rfl (hS.ldA (cs := Enc.enc t) (by first | exact .h0 | exact .h1 | exact .h2 | exact .h3 | exact .h4 | exact .h5 | exact .h6 | exact .h7 | exact .h8 | exact .h9 | exact .h10 | exact .h11 | exact .h12 | exact .h13 | exact .h14) (Enc.size_eq _)) ⟨rfl, rfl⟩)) ?_
          refine ML.look rfl rfl rfl (fun w hw => (by have hS := hS1.bel hw; exact opW.moveV (v := v) rfl ⟨rfl, rfl⟩)) ?_
          refine ML.one rfl rfl rfl (opW.call (copied_ok _ v l (hl _ ((hS.sub (S' := ownsL 36 d.kvs ++ S) (by repeat (first | with_reducible exact List.nil_sublist _ | with_reducible exact List.Sublist.refl _ | with_reducible refine List.Sublist.cons₂ _ ?_ | with_reducible refine List.Sublist.cons _ ?_))).sub (List.sublist_append_right _ _))) (by omega)) rfl ?_)
          rintro v36 w ⟨hv36, hw⟩
          replace hT := hT.newOwn hw hv36.1 hv36.2
          refine ⟨hT.old, ?_⟩
          have hS := hS1.merge hT
          try simp only [List.cons_append, List.nil_append] at hS
          refine ML.put0 rfl rfl rfl (opW.mapUpdate (κ := Key) (ν := Value × List Key) (k := t) (v := (v36, l)) (vv := Prod.fst) hS (by first | exact .h0 | exact .h1 | exact .h2 | exact .h3 | exact .h4 | exact .h5 | exact .h6 | exact .h7 | exact .h8 | exact .h9 | exact .h10 | exact .h11 | exact .h12 | exact .h13 | exact .h14) rfl rfl rfl ?_)
          intro w hS; replace hS := hS _ (by first | exact .h0 | exact .h1 | exact .h2 | exact .h3 | exact .h4 | exact .h5 | exact .h6 | exact .h7 | exact .h8 | exact .h9 | exact .h10 | exact .h11 | exact .h12 | exact .h13 | exact .h14)
          refine ML.nil ?_
          refine thenQ_n (hK10 _ _ ?_)
          refine WC.seq (fun K11 hK11 => ?_)
          refine WC.region ?_
          refine WL.op rfl (opW.assignI rfl ?_)
          refine WL.nil ?_
          refine thenQ_n (hK11 _ _ ?_)
          refine WC.ret ?_
          refine bodyQ_ret (.tmpI rfl .nil) ?_
          replace hS := hS.swap.drop1.ownNew [_, _] hno hnd
          have hz : putC d t l = 0 := by unfold putC; rw [if_pos hlen, if_neg (by rw [hno]; decide)]
          rw [hz]
          have hfd : ∀ k, TbD.find ⟨d.r, aput t (v36, l) d.kvs⟩ k = if k = t then some l else d.find k := by
            intro k
            unfold TbD.find
            simp only [aget_aput]
            by_cases e : k = t
            · rw [if_pos e, if_pos e]; rfl
            · rw [if_neg e, if_neg e]
          refine ⟨⟨d.r, aput t (v36, l) d.kvs⟩, rfl, fun _ => hfd, fun h => absurd rfl h, fun k x hx => (by show aget k (aput t (v36, l) d.kvs) = some x; rw [aget_aput, if_neg (fun e => by rw [e, hno] at hx; cases hx)]; exact hx), fun k l' h => ?_, hS.tbClose ⟨d.r, aput t (v36, l) d.kvs⟩⟩
          rw [hfd] at h
          split at h
          · cases h; exact hlen
          · exact hok k l' h

theorem cloneF6 : CloneF Try.prog 36 := ⟨Try.f36, Try.func36, by kernel_rfl, by kernel_rfl, by kernel_rfl, by kernel_rfl⟩

theorem mclone6 (w0 : World) (r : Nat) (L : List (Key × (Value × List Key))) (hM : MapB w0 r Prod.fst L) : Ret Try.prog 30 #[.map (some r)] w0 (fun u w' => NewM w0 w' u Prod.fst L ∧ Bel w0 w') := by
  refine Ret.enter (args := [.map (some r)]) Try.func30 rfl Try.ntmps30 Try.results30 rfl ?_
  have hS := St.start w0
  refine WC.seq (fun K1 hK1 => ?_)
  refine WC.region ?_
  refine WL.op rfl (opW.assignV rfl ?_)
  refine WL.nil ?_
  refine thenQ_n (hK1 _ _ ?_)
  refine WC.seq (fun K2 hK2 => ?_)
  refine WC.seq (fun K3 hK3 => ?_)
  refine WC.region ?_
  refine WL.op rfl (opW.moveV (v := .map (some r)) rfl ?_)
  refine WL.op rfl (opW.eqlM rfl rfl ?_)
  refine WL.nil ?_
  refine thenQ_n (hK3 _ _ ?_)
  refine WC.cond _ rfl (fun hc0 => ?_) (fun hc0 => ?_)
  ·
    have hr0 := hc0
    try simp only [decide_eq_true_eq, decide_eq_false_iff_not, Bool.and_eq_true, Bool.or_eq_true, Bool.and_eq_false_iff, Bool.or_eq_false_iff, Bool.not_eq_true', Bool.not_eq_false', Int.not_lt, Int.not_le] at hc0
    simp at hr0
  ·
    have hr0 := hc0
    try simp only [decide_eq_true_eq, decide_eq_false_iff_not, Bool.and_eq_true, Bool.or_eq_true, Bool.and_eq_false_iff, Bool.or_eq_false_iff, Bool.not_eq_true', Bool.not_eq_false', Int.not_lt, Int.not_le] at hc0
    refine WC.skip ?_
    refine thenQ_n (hK2 _ _ ?_)
    refine WC.seq (fun K4 hK4 => ?_)
    refine WC.region ?_
    refine WL.op rfl (opW.moveV (v := .map (some r)) rfl ?_)
    refine WL.op rfl (opW.ifaceM rfl ?_)
    refine WL.op rfl (opW.cloneM (κ := Key) (vv := Prod.fst) cloneF6 hS (hM.bel hS.old) rfl ?_)
    intro c1 w _ hS
    refine WL.op rfl (opW.assertM rfl ?_)
    refine WL.op rfl (opW.assignV (v := .map (some c1)) rfl ?_)
    refine WL.nil ?_
    refine thenQ_n (hK4 _ _ ?_)
    refine WC.ret ?_
    refine bodyQ_ret (.tmpV (v := .map (some c1)) rfl .nil) ?_
    exact ⟨hS.map_new .here, hS.old⟩

theorem copy_ok (w0 : World) (p : Nat) (d : TbD) (ha : TbAt w0 p d) : Ret Try.prog 17 #[.pointer (some ⟨p, 0, none⟩)] w0 (fun u w' => ∃ p2 r2, u = .pointer (some ⟨p2, 0, none⟩) ∧ NewE w0 w' (tcE p2 ⟨r2, d.kvs⟩) ∧ Bel w0 w') := by
  refine Ret.enter (args := [.pointer (some ⟨p, 0, none⟩)]) Try.func17 rfl Try.ntmps17 Try.results17 rfl ?_
  have hS := St.start w0
  refine WC.seq (fun K1 hK1 => ?_)
  refine WC.region ?_
  refine WL.op rfl (opW.assignV rfl ?_)
  refine WL.nil ?_
  refine thenQ_n (hK1 _ _ ?_)
  refine WC.seq (fun K2 hK2 => ?_)
  refine WC.seq (fun K3 hK3 => ?_)
  refine WC.region ?_
  refine WL.op rfl (opW.moveV (v := .pointer (some ⟨p, 0, none⟩)) rfl ?_)
  refine WL.op rfl (opW.call (there_ok _ p d.r (ha.1.bel hS.old)) rfl ?_)
  rintro _ w ⟨rfl, hw⟩; replace hS := hS.bel hw
  refine WL.op rfl (opW.not rfl ?_)
  refine WL.nil ?_
  refine thenQ_n (hK3 _ _ ?_)
  refine WC.cond _ rfl (fun hc0 => ?_) (fun hc0 => ?_)
  ·
    have hr0 := hc0
    try simp only [decide_eq_true_eq, decide_eq_false_iff_not, Bool.and_eq_true, Bool.or_eq_true, Bool.and_eq_false_iff, Bool.or_eq_false_iff, Bool.not_eq_true', Bool.not_eq_false', Int.not_lt, Int.not_le] at hc0
    exact absurd hr0 (by decide)
  ·
    have hr0 := hc0
    try simp only [decide_eq_true_eq, decide_eq_false_iff_not, Bool.and_eq_true, Bool.or_eq_true, Bool.and_eq_false_iff, Bool.or_eq_false_iff, Bool.not_eq_true', Bool.not_eq_false', Int.not_lt, Int.not_le] at hc0
    refine WC.skip ?_
    refine thenQ_n (hK2 _ _ ?_)
    refine WC.seq (fun K4 hK4 => ?_)
    refine WC.region ?_
    refine WL.op rfl (opW.moveV (v := .pointer (some ⟨p, 0, none⟩)) rfl ?_)
    refine WL.op rfl (opW.nilCheckB rfl ?_)
    refine WL.op rfl (opW.fieldAddrB rfl ?_)
    refine WL.op rfl (opW.loadV rfl ((ha.1.bel hS.old).at1 (TbS.at_of _)) ?_)
    refine WL.op rfl (opW.call (mclone6 _ d.r d.kvs (ha.2.1.bel hS.old)) rfl ?_)
    rintro _ w ⟨⟨c1, rfl, hge, hmb⟩, hw⟩; replace hS := hS.newMap hw hmb hge
    refine WL.op rfl (opW.buildE (r := ((TbS.mk (some c1)) : TbS)) (ps := TbS.parts ((TbS.mk (some c1)) : TbS)) (TbS.enc_eq _) (by first | rfl | (simp only [kK, enc_vset, enc_vz, Lookup.enc_eq, Lookup.parts, Act.enc_eq, Act.parts, TbS.enc_eq, TbS.parts, RTab.enc_eq, RTab.parts, RReg.enc_eq, RReg.parts]; rfl)) (by (repeat' (first | exact trivial | refine And.intro ?_ ?_)) <;> first | rfl | exact Enc.size_eq _ | (simp; done)) ?_)
    refine WL.op rfl (opW.boxA hS rfl ?_)
    intro b12 w _ hS
    refine WL.op rfl (opW.assignV (v := .pointer (some ⟨b12, 0, none⟩)) rfl ?_)
    refine WL.nil ?_
    refine thenQ_n (hK4 _ _ ?_)
    refine WC.ret ?_
    refine bodyQ_ret (.tmpV (v := .pointer (some ⟨b12, 0, none⟩)) rfl .nil) ?_
    exact ⟨b12, c1, rfl, (hS.tcClose (S := []) ⟨c1, d.kvs⟩).takeE .here, hS.old⟩

end Go.Fer
