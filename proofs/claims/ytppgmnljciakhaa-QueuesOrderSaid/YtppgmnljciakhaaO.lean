/- QueuesOrder -/
import Derived.Test.YtppgmnljciakhaaN
set_option linter.all false
namespace Go.Fer
open Go Go.Proofs Go.RowKit

set_option maxRecDepth 20000 in
set_option maxHeartbeats 8000000 in
theorem order_law (w0 : World) (v : Value) (xs : List Act) (ac : Nat → List I64) (hx : SlR w0 v xs) (hac : ∀ i (hi : i < xs.length), SlR w0 xs[i].batch.v (ac i) ∧ (ac i).length ≤ 17592186044416) (hxb : xs.length ≤ 17592186044416) : Ret Try.prog 5 #[v] w0 (fun r w' => r = .bool true ∧ Bel w0 w') := by
  refine Ret.enter (args := [v]) Try.func5 rfl Try.ntmps5 Try.results5 rfl ?_
  have hS := St.start w0
  refine WC.seq (fun K1 hK1 => ?_)
  refine WC.region ?_
  refine WL.op rfl (opW.assignB rfl ?_)
  refine WL.nil ?_
  refine thenQ_n (hK1 _ _ ?_)
  refine WC.seq (fun K2 hK2 => ?_)
  refine WC.seq (fun K3 hK3 => ?_)
  refine WC.region ?_
  refine WL.op rfl (opW.moveV (v := v) rfl ?_)
  refine WL.op rfl (opW.call (great_ok _ v xs ac (hx.bel hS.old) (fun i hi => (hac i hi).1.bel hS.old) hxb (fun i hi => (hac i hi).2)) rfl ?_)
  rintro _ w ⟨bb, rfl, hbb, hw⟩; replace hS := hS.bel hw
  refine WL.nil ?_
  refine thenQ_n (hK3 _ _ ?_)
  refine WC.cond _ rfl (fun hc0 => ?_) (fun hc0 => ?_)
  ·
    have hr0 := hc0
    try simp only [decide_eq_true_eq, decide_eq_false_iff_not, Bool.and_eq_true, Bool.or_eq_true, Bool.and_eq_false_iff, Bool.or_eq_false_iff, Bool.not_eq_true', Bool.not_eq_false', Int.not_lt, Int.not_le] at hc0
    refine WC.seq (fun K4 hK4 => ?_)
    refine WC.region ?_
    refine WL.op rfl (opW.call (lives_ok _) rfl ?_)
    rintro _ w ⟨rfl, hw⟩; replace hS := hS.bel hw
    refine WL.op rfl (opW.assignB rfl ?_)
    refine WL.nil ?_
    refine thenQ_n (hK4 _ _ ?_)
    refine WC.ret ?_
    refine thenQ_r ?_
    refine bodyQ_ret (.tmpB rfl .nil) ?_
    exact ⟨rfl, hS.old⟩
  ·
    have hr0 := hc0
    try simp only [decide_eq_true_eq, decide_eq_false_iff_not, Bool.and_eq_true, Bool.or_eq_true, Bool.and_eq_false_iff, Bool.or_eq_false_iff, Bool.not_eq_true', Bool.not_eq_false', Int.not_lt, Int.not_le] at hc0
    have hsum := hbb (by simpa using hr0)
    refine WC.skip ?_
    refine thenQ_n (hK2 _ _ ?_)
    refine WC.seq (fun K5 hK5 => ?_)
    refine WC.region ?_
    refine WL.op rfl (opW.call (new_ok _ 3) rfl ?_)
    rintro v w (⟨h, _⟩ | ⟨_, p, d0, rfl, hok0, hC0, hne0, hn, hw⟩)
    · exact absurd h (by decide)
    replace hS := hS.newE hw hn
    replace hC0 : d0.C = [[], [], []] := hC0
    refine WL.op rfl (opW.moveV (v := .tuple #[.pointer (some ⟨p, 0, none⟩), .int .i64 0]) rfl ?_)
    refine WL.op rfl (opW.extract rfl rfl ?_)
    refine WL.op rfl (opW.extract rfl rfl ?_)
    refine WL.op rfl (opW.assignV (v := .pointer (some ⟨p, 0, none⟩)) rfl ?_)
    refine WL.op rfl (opW.assignI rfl ?_)
    refine WL.nil ?_
    refine thenQ_n (hK5 _ _ ?_)
    refine WC.seq (fun K6 hK6 => ?_)
    refine WC.seq (fun K7 hK7 => ?_)
    refine WC.region ?_
    refine WL.op rfl (opW.moveI rfl ?_)
    refine WL.op rfl (opW.neq rfl rfl ?_)
    refine WL.nil ?_
    refine thenQ_n (hK7 _ _ ?_)
    refine WC.cond _ rfl (fun hc1 => ?_) (fun hc1 => ?_)
    ·
      have hr1 := hc1
      try simp only [decide_eq_true_eq, decide_eq_false_iff_not, Bool.and_eq_true, Bool.or_eq_true, Bool.and_eq_false_iff, Bool.or_eq_false_iff, Bool.not_eq_true', Bool.not_eq_false', Int.not_lt, Int.not_le] at hc1
      exact absurd hr1 (by decide)
    ·
      have hr1 := hc1
      try simp only [decide_eq_true_eq, decide_eq_false_iff_not, Bool.and_eq_true, Bool.or_eq_true, Bool.and_eq_false_iff, Bool.or_eq_false_iff, Bool.not_eq_true', Bool.not_eq_false', Int.not_lt, Int.not_le] at hc1
      refine WC.skip ?_
      refine thenQ_n (hK6 _ _ ?_)
      refine WC.seq (fun K8 hK8 => ?_)
      refine WC.region ?_
      refine WL.op rfl (opW.allocA hS ?_)
      intro b5 w _ hS
      refine WL.op rfl (opW.allocA hS ?_)
      intro b6 w _ hS
      replace hS : St w0 [blkE b6 (arr3 [(⟨none, 0, 0⟩ : SlV), (⟨none, 0, 0⟩ : SlV), (⟨none, 0, 0⟩ : SlV)]) 53, blkE b5 (arr3 [(⟨none, 0, 0⟩ : SlV), (⟨none, 0, 0⟩ : SlV), (⟨none, 0, 0⟩ : SlV)]) 53, laE p d0] _ := hS
      replace hS := (((((((hS.nilOwn (α := SlV) 32).nilOwn (α := SlV) 32).nilOwn (α := SlV) 32).nilOwn (α := SlV) 32).nilOwn (α := SlV) 32).nilOwn (α := SlV) 32).perm (List.perm_append_comm (l₁ := [_, _, _, _, _, _]) (l₂ := [_, _, _])))
      replace hS := (St.pick (e := blkE b5 (arr3 [(⟨none, 0, 0⟩ : SlV), (⟨none, 0, 0⟩ : SlV), (⟨none, 0, 0⟩ : SlV)]) 53) hS .h1)
      replace hS : St w0 (laE p d0 :: blkE b5 (arr3 ([nO, nO, nO].map OrD.tk)) 53 :: blkE b6 (arr3 ([nO, nO, nO].map OrD.gv)) 53 :: ([nO, nO, nO].flatMap orE ++ [])) _ := (St.pick (e := laE p d0) hS .h2)
      refine WL.nil ?_
      refine thenQ_n (hK8 _ _ ?_)
      refine WC.seq (fun K9 hK9 => ?_)
      refine WC.seq (fun K10 hK10 => ?_)
      refine WC.region ?_
      refine WL.op rfl (opW.assignI rfl ?_)
      refine WL.nil ?_
      refine thenQ_n (hK10 _ _ ?_)
      refine WC.block ?_
      refine WC.loop (fun q f w => ∃ (i : Nat) (d : LaD) (os : List OrD), Fits [(0, v), (3, .pointer (some ⟨p, 0, none⟩)), (5, .pointer (some ⟨b5, 0, none⟩)), (6, .pointer (some ⟨b6, 0, none⟩)), (7, .int .i64 (i : Int))] f ∧ St w0 (laE p d :: blkE b5 (arr3 (os.map OrD.tk)) 53 :: blkE b6 (arr3 (os.map OrD.gv)) 53 :: (os.flatMap orE ++ [])) w ∧ Inv3 w0 i os d.C ∧ LaOk i d ∧ d.lv.a.isNone = false ∧ i ≤ xs.length ∧ q = xs.length - i) (xs.length) ?_ ?_
      ·
        exact ⟨0, d0, [nO, nO, nO], ⟨rfl, rfl, rfl, rfl, rfl, trivial⟩, hS, (by rw [hC0]; exact inv0 w0), hok0, hne0, Nat.zero_le _, rfl⟩
      ·
        rintro q f w ⟨i, d, os, hfit, hS, hinv, hok, hne, hi0, hm⟩
        refine WC.fits _ hfit (fun g => ?_)
        clear hfit
        refine WC.seq (fun K11 hK11 => ?_)
        refine WC.seq (fun K12 hK12 => ?_)
        refine WC.region ?_
        refine WL.op rfl (opW.moveI rfl ?_)
        refine WL.op rfl (opW.moveV (v := v) rfl ?_)
        refine WL.op rfl (opW.lenV rfl ((hx.bel hS.old)) ?_)
        refine WL.op rfl (opW.lss rfl rfl ?_)
        refine WL.nil ?_
        refine thenQ_n (hK12 _ _ ?_)
        refine WC.cond _ rfl (fun hc2 => ?_) (fun hc2 => ?_)
        ·
          have hr2 := hc2
          try simp only [decide_eq_true_eq, decide_eq_false_iff_not, Bool.and_eq_true, Bool.or_eq_true, Bool.and_eq_false_iff, Bool.or_eq_false_iff, Bool.not_eq_true', Bool.not_eq_false', Int.not_lt, Int.not_le] at hc2
          have hi : i < xs.length := by omega
          refine WC.skip ?_
          refine thenQ_n (hK11 _ _ ?_)
          refine WC.mid (fun f w => ∃ (d3 : LaD) (o3 : List OrD), Fits [(0, v), (3, .pointer (some ⟨p, 0, none⟩)), (5, .pointer (some ⟨b5, 0, none⟩)), (6, .pointer (some ⟨b6, 0, none⟩)), (7, .int .i64 (i : Int))] f ∧ St w0 (laE p d3 :: blkE b5 (arr3 (o3.map OrD.tk)) 53 :: blkE b6 (arr3 (o3.map OrD.gv)) 53 :: (o3.flatMap orE ++ [])) w ∧ Inv3 w0 (i + 1) o3 d3.C ∧ LaOk (i + 1) d3 ∧ d3.lv.a.isNone = false) ?_ ?_
          ·
            refine WC.block ?_
            refine WC.seq (fun K13 hK13 => ?_)
            refine WC.region ?_
            obtain ⟨j4, hj4, hlt4⟩ := and3 xs[i].worker
            refine WL.op rfl (opW.moveV (v := v) rfl ?_)
            refine WL.op rfl (opW.moveI rfl ?_)
            refine WL.op rfl (opW.idxV rfl ((hx.bel hS.old)) rfl (by omega) ?_)
            refine WL.op rfl (opW.fieldAddr rfl ((hx.bel hS.old).isP hi) ?_)
            refine WL.op rfl (opW.loadV rfl (Ld.pt1 ((hx.bel hS.old).isPt hi) 1 (Act.at_worker _)) ?_)
            refine WL.op rfl (opW.and rfl rfl (hj4) ?_)
            refine WL.op rfl (opW.rem rfl rfl (by omega) (tmod_nat j4 3) ?_)
            refine WL.op rfl (opW.assignI rfl ?_)
            have hj3 : j4 % 3 < 3 := Nat.mod_lt _ (by omega)
            generalize j4 % 3 = j at hj3 ⊢
            have hjo : j < os.length := by rw [hinv.l1]; exact hj3
            have hjC : j < d.C.length := by rw [hinv.l2]; exact hj3
            have hjt : j < (os.map OrD.tk).length := by rw [List.length_map]; exact hjo
            have hjg : j < (os.map OrD.gv).length := by rw [List.length_map]; exact hjo
            obtain ⟨X, hX⟩ : ∃ X, os[j] = X := ⟨_, rfl⟩
            obtain ⟨c, hc⟩ : ∃ c, d.C[j] = c := ⟨_, rfl⟩
            have hok1 := hinv.all j hjo hjC
            rw [hX, hc] at hok1
            have hlc : laneC d.C (j : Int) = c := by rw [laneC_at hjC, hc]
            have hgl := hok1.glen
            have hbd := hok1.bd
            replace hS := hS.ordOut hjo hX
            refine WL.nil ?_
            refine thenQ_n (hK13 _ _ ?_)
            refine WC.seq (fun K14 hK14 => ?_)
            refine WC.region ?_
            refine WL.op rfl (opW.moveV (v := v) rfl ?_)
            refine WL.op rfl (opW.moveI rfl ?_)
            refine WL.op rfl (opW.idxV rfl ((hx.bel hS.old)) rfl (by omega) ?_)
            refine WL.op rfl (opW.fieldAddr rfl ((hx.bel hS.old).isP hi) ?_)
            refine WL.op rfl (opW.loadV rfl (Ld.pt1 ((hx.bel hS.old).isPt hi) 0 (Act.at_pop _)) ?_)
            refine WL.nil ?_
            refine thenQ_n (hK14 _ _ ?_)
            refine WC.cond _ rfl (fun hc3 => ?_) (fun hc3 => ?_)
            ·
              have hr3 := hc3
              try simp only [decide_eq_true_eq, decide_eq_false_iff_not, Bool.and_eq_true, Bool.or_eq_true, Bool.and_eq_false_iff, Bool.or_eq_false_iff, Bool.not_eq_true', Bool.not_eq_false', Int.not_lt, Int.not_le] at hc3
              refine WC.seq (fun K15 hK15 => ?_)
              refine WC.region ?_
              refine WL.op rfl (opW.moveV (v := .pointer (some ⟨p, 0, none⟩)) rfl ?_)
              refine WL.op rfl (opW.moveI rfl ?_)
              refine WL.op rfl (opW.call (popL_ok _ _ _ p d i (j : Int) (hS.pick (e := laE p d) (by first | exact .h0 | exact .h1 | exact .h2 | exact .h3 | exact .h4 | exact .h5 | exact .h6 | exact .h7 | exact .h8 | exact .h9 | exact .h10 | exact .h11 | exact .h12 | exact .h13 | exact .h14)) hok (by omega)) rfl ?_)
              rintro v w ⟨b, d', hv, hb, hC', hl', hok', hS⟩
              rw [hlc] at hv hb
              have hC2 : d'.C = d.C.set j c.tail := by rw [hC', popR, inR_nat hjC, if_pos rfl, hlc, Int.toNat_natCast]
              subst hv
              refine WL.op rfl (opW.moveV (v := .tuple #[b.1.v, .bool (!c.isEmpty)]) rfl ?_)
              refine WL.op rfl (opW.extract rfl rfl ?_)
              refine WL.op rfl (opW.extract rfl rfl ?_)
              refine WL.op rfl (opW.assignV (v := b.1.v) rfl ?_)
              refine WL.op rfl (opW.assignB rfl ?_)
              refine WL.nil ?_
              refine thenQ_n (hK15 _ _ ?_)
              refine WC.seq (fun K16 hK16 => ?_)
              refine WC.seq (fun K17 hK17 => ?_)
              refine WC.draw 11 (.look 0 (.look 1 (.look 2 (.look 3 (.look 4 (.look 5 (.look 6 (.look 7 (.look 8 (.look 9 (.look 10 .nil))))))))))) (by kernel_rfl) (fun _ _ _ h => h) (fun w1 hw1 => ?_)
              replace hS := hS.bel hw1
              have hS1 := hS
              have hT := St.start w1
              refine ML.look rfl rfl rfl (fun w hw => (by have hS := hS1.bel hw; exact opW.moveB rfl ⟨rfl, rfl⟩)) ?_
              refine ML.look rfl rfl rfl (fun w hw => (by have hS := hS1.bel hw; exact opW.moveI rfl ⟨rfl, rfl⟩)) ?_
              refine ML.look rfl rfl rfl (fun w hw => (by have hS := hS1.bel hw; exact opW.idxArr rfl rfl (by omega) ⟨rfl, rfl⟩)) ?_
              refine ML.look rfl rfl rfl (fun w hw => (by have hS := hS1.bel hw; exact opW.loadV rfl (hS.ld1 (by first | exact .h0 | exact .h1 | exact .h2 | exact .h3 | exact .h4 | exact .h5 | exact .h6 | exact .h7 | exact .h8 | exact .h9 | exact .h10 | exact .h11 | exact .h12 | exact .h13 | exact .h14) (arrJ_at hjg X.gv)) ⟨rfl, rfl⟩)) ?_
              refine ML.look rfl rfl rfl (fun w hw => (by have hS := hS1.bel hw; exact opW.lenV rfl (hS.sl (v := X.gv.v) (xs := X.gl.map Prod.fst) (by first | exact .h0 | exact .h1 | exact .h2 | exact .h3 | exact .h4 | exact .h5 | exact .h6 | exact .h7 | exact .h8 | exact .h9 | exact .h10 | exact .h11 | exact .h12 | exact .h13 | exact .h14)) ⟨rfl, rfl⟩)) ?_
              refine ML.look rfl rfl rfl (fun w hw => (by have hS := hS1.bel hw; exact opW.moveI rfl ⟨rfl, rfl⟩)) ?_
              refine ML.look rfl rfl rfl (fun w hw => (by have hS := hS1.bel hw; exact opW.idxArr rfl rfl (by omega) ⟨rfl, rfl⟩)) ?_
              refine ML.look rfl rfl rfl (fun w hw => (by have hS := hS1.bel hw; exact opW.loadV rfl (hS.ld1 (by first | exact .h0 | exact .h1 | exact .h2 | exact .h3 | exact .h4 | exact .h5 | exact .h6 | exact .h7 | exact .h8 | exact .h9 | exact .h10 | exact .h11 | exact .h12 | exact .h13 | exact .h14) (arrJ_at hjt X.tk)) ⟨rfl, rfl⟩)) ?_
              refine ML.look rfl rfl rfl (fun w hw => (by have hS := hS1.bel hw; exact opW.lenV rfl (hS.sl (v := X.tk.v) (xs := X.tl) (by first | exact .h0 | exact .h1 | exact .h2 | exact .h3 | exact .h4 | exact .h5 | exact .h6 | exact .h7 | exact .h8 | exact .h9 | exact .h10 | exact .h11 | exact .h12 | exact .h13 | exact .h14)) ⟨rfl, rfl⟩)) ?_
              refine ML.look rfl rfl rfl (fun w hw => (by have hS := hS1.bel hw; exact opW.lss rfl rfl ⟨rfl, rfl⟩)) ?_
              refine ML.look rfl rfl rfl (fun w hw => (by have hS := hS1.bel hw; exact opW.neqB rfl rfl ⟨rfl, rfl⟩)) ?_
              refine ML.nil ?_
              refine thenQ_n (hK17 _ _ ?_)
              refine WC.cond _ rfl (fun hc4 => ?_) (fun hc4 => ?_)
              ·
                have hr4 := hc4
                try simp only [decide_eq_true_eq, decide_eq_false_iff_not, Bool.and_eq_true, Bool.or_eq_true, Bool.and_eq_false_iff, Bool.or_eq_false_iff, Bool.not_eq_true', Bool.not_eq_false', Int.not_lt, Int.not_le] at hc4
                rw [List.length_map, hgl] at hr4
                cases c <;> simp at hr4 <;> omega
              ·
                have hr4 := hc4
                try simp only [decide_eq_true_eq, decide_eq_false_iff_not, Bool.and_eq_true, Bool.or_eq_true, Bool.and_eq_false_iff, Bool.or_eq_false_iff, Bool.not_eq_true', Bool.not_eq_false', Int.not_lt, Int.not_le] at hc4
                refine WC.skip ?_
                refine thenQ_n (hK16 _ _ ?_)
                refine WC.seq (fun K18 hK18 => ?_)
                refine WC.region ?_
                refine WL.op rfl (opW.moveB rfl ?_)
                refine WL.nil ?_
                refine thenQ_n (hK18 _ _ ?_)
                refine WC.cond _ rfl (fun hc5 => ?_) (fun hc5 => ?_)
                ·
                  have hr5 := hc5
                  try simp only [decide_eq_true_eq, decide_eq_false_iff_not, Bool.and_eq_true, Bool.or_eq_true, Bool.and_eq_false_iff, Bool.or_eq_false_iff, Bool.not_eq_true', Bool.not_eq_false', Int.not_lt, Int.not_le] at hc5
                  obtain ⟨c0, c1, rfl⟩ : ∃ c0 c1, c = c0 :: c1 := by
                    cases c with
                    | nil => simp at hr5
                    | cons a l => exact ⟨a, l, rfl⟩
                  replace hb : b.2 = c0 := hb
                  subst hb
                  refine WC.region ?_
                  refine WL.op rfl (opW.moveI rfl ?_)
                  refine WL.op rfl (opW.moveI rfl ?_)
                  refine WL.op rfl (opW.idxArr rfl rfl (by omega) ?_)
                  refine WL.op rfl (opW.loadV rfl (hS.ld1 (by first | exact .h0 | exact .h1 | exact .h2 | exact .h3 | exact .h4 | exact .h5 | exact .h6 | exact .h7 | exact .h8 | exact .h9 | exact .h10 | exact .h11 | exact .h12 | exact .h13 | exact .h14) (arrJ_at hjg X.gv)) ?_)
                  refine WL.op rfl (opW.moveV (v := b.1.v) rfl ?_)
                  refine WL.op rfl (opW.buildSl hS (([b.1] : List SlV)) [b.1.v] rfl rfl rfl rfl (by decide) ?_)
                  intro b66 w hw hS
                  refine WL.op rfl (opW.appendOwn (α := SlV) (v := X.gv.v) (xs := X.gl.map Prod.fst) rfl hS rfl (by first | exact .h0 | exact .h1 | exact .h2 | exact .h3 | exact .h4 | exact .h5 | exact .h6 | exact .h7 | exact .h8 | exact .h9 | exact .h10 | exact .h11 | exact .h12 | exact .h13 | exact .h14) (hS.sl (xs := ([b.1] : List SlV)) (by first | exact .h0 | exact .h1 | exact .h2 | exact .h3 | exact .h4 | exact .h5 | exact .h6 | exact .h7 | exact .h8 | exact .h9 | exact .h10 | exact .h11 | exact .h12 | exact .h13 | exact .h14)) (by rw [List.length_map]; simp only [List.length_cons, List.length_nil]; omega) (by rw [List.length_map]; simp only [maxLen, List.length_cons, List.length_nil]; omega) ?_)
                  intro v67 w hS; replace hS := hS _ (by first | exact .h0 | exact .h1 | exact .h2 | exact .h3 | exact .h4 | exact .h5 | exact .h6 | exact .h7 | exact .h8 | exact .h9 | exact .h10 | exact .h11 | exact .h12 | exact .h13 | exact .h14)
                  obtain ⟨s67, rfl⟩ := (hS.sl (v := v67) (xs := X.gl.map Prod.fst ++ [b.1]) (by first | exact .h0 | exact .h1 | exact .h2 | exact .h3 | exact .h4 | exact .h5 | exact .h6 | exact .h7 | exact .h8 | exact .h9 | exact .h10 | exact .h11 | exact .h12 | exact .h13 | exact .h14)).asV
                  rw [show X.gl.map Prod.fst ++ [b.1] = (X.gl ++ [b]).map Prod.fst from (by simp)] at hS
                  refine WL.op rfl (opW.idxArr rfl rfl (by omega) ?_)
                  refine WL.op0 (opW.storeF (b := b6) (v := s67.v) (sz := 1) (cs' := arr3 ((os.map OrD.gv).set j s67)) hS rfl rfl (by first | exact .h0 | exact .h1 | exact .h2 | exact .h3 | exact .h4 | exact .h5 | exact .h6 | exact .h7 | exact .h8 | exact .h9 | exact .h10 | exact .h11 | exact .h12 | exact .h13 | exact .h14) rfl (by rw [arr3_size, List.length_set]; omega) (Enc.one (α := SlV) s67) (arrJ_set hjg X.gv s67) ?_)
                  intro w hS; replace hS := hS _ (by first | exact .h0 | exact .h1 | exact .h2 | exact .h3 | exact .h4 | exact .h5 | exact .h6 | exact .h7 | exact .h8 | exact .h9 | exact .h10 | exact .h11 | exact .h12 | exact .h13 | exact .h14)
                  have hfin : ∃ (d2 : LaD) (o2 : List OrD), St w0 (laE p d2 :: blkE b5 (arr3 (o2.map OrD.tk)) 53 :: blkE b6 (arr3 (o2.map OrD.gv)) 53 :: (o2.flatMap orE ++ [])) _ ∧ Inv3 w0 (i + 1) o2 d2.C ∧ LaOk (i + 1) d2 ∧ d2.lv.a.isNone = false := ⟨d', os.set j ({ X with gv := s67, gl := X.gl ++ [b] } : OrD), St.ordIn hjo (X := ({ X with gv := s67, gl := X.gl ++ [b] } : OrD)) (St.pushB [_, _, _, _, _] (b := b) hS.drop1), (by rw [hC2]; exact hinv.set (Nat.le_succ i) ((hok1.pop s67).up (Nat.le_succ i))), hok'.up (Nat.le_succ i), (by rw [hl']; exact hne)⟩
                  refine WL.nil ?_
                  refine blockQ_n ?_
                  refine thenQ_n ?_
                  obtain ⟨d2, o2, g1, g2, g3, g4⟩ := hfin
                  exact ⟨d2, o2, ⟨rfl, rfl, rfl, rfl, rfl, trivial⟩, g1, g2, g3, g4⟩
                ·
                  have hr5 := hc5
                  try simp only [decide_eq_true_eq, decide_eq_false_iff_not, Bool.and_eq_true, Bool.or_eq_true, Bool.and_eq_false_iff, Bool.or_eq_false_iff, Bool.not_eq_true', Bool.not_eq_false', Int.not_lt, Int.not_le] at hc5
                  obtain rfl : c = [] := by
                    cases c with
                    | nil => rfl
                    | cons a l => simp at hr5
                  have hfin : ∃ (d2 : LaD) (o2 : List OrD), St w0 (laE p d2 :: blkE b5 (arr3 (o2.map OrD.tk)) 53 :: blkE b6 (arr3 (o2.map OrD.gv)) 53 :: (o2.flatMap orE ++ [])) _ ∧ Inv3 w0 (i + 1) o2 d2.C ∧ LaOk (i + 1) d2 ∧ d2.lv.a.isNone = false := ⟨d', os.set j X, St.ordIn hjo (X := X) hS.drop1, (by rw [hC2]; exact hinv.set (Nat.le_succ i) (hok1.up (Nat.le_succ i))), hok'.up (Nat.le_succ i), (by rw [hl']; exact hne)⟩
                  refine WC.skip ?_
                  refine blockQ_n ?_
                  refine thenQ_n ?_
                  obtain ⟨d2, o2, g1, g2, g3, g4⟩ := hfin
                  exact ⟨d2, o2, ⟨rfl, rfl, rfl, rfl, rfl, trivial⟩, g1, g2, g3, g4⟩
            ·
              have hr3 := hc3
              try simp only [decide_eq_true_eq, decide_eq_false_iff_not, Bool.and_eq_true, Bool.or_eq_true, Bool.and_eq_false_iff, Bool.or_eq_false_iff, Bool.not_eq_true', Bool.not_eq_false', Int.not_lt, Int.not_le] at hc3
              refine WC.seq (fun K19 hK19 => ?_)
              refine WC.region ?_
              refine WL.op rfl (opW.moveV (v := .pointer (some ⟨p, 0, none⟩)) rfl ?_)
              refine WL.op rfl (opW.moveI rfl ?_)
              refine WL.op rfl (opW.moveV (v := v) rfl ?_)
              refine WL.op rfl (opW.moveI rfl ?_)
              refine WL.op rfl (opW.idxV rfl ((hx.bel hS.old)) rfl (by omega) ?_)
              refine WL.op rfl (opW.fieldAddr rfl ((hx.bel hS.old).isP hi) ?_)
              refine WL.op rfl (opW.loadV rfl (Ld.pt1 ((hx.bel hS.old).isPt hi) 2 (Act.at_batch _)) ?_)
              refine WL.op rfl (opW.call (pushL_ok _ _ _ p d i (j : Int) _ (ac i) hS hok (by omega) hne (fun w h => (hac i hi).1.bel h.old)) rfl ?_)
              rintro v w ⟨d', hv, hC', hl', hok', hS⟩
              subst hv
              refine WL.op rfl (opW.eql rfl rfl ?_)
              refine WL.nil ?_
              refine thenQ_n (hK19 _ _ ?_)
              refine WC.cond _ rfl (fun hc6 => ?_) (fun hc6 => ?_)
              ·
                have hr6 := hc6
                try simp only [decide_eq_true_eq, decide_eq_false_iff_not, Bool.and_eq_true, Bool.or_eq_true, Bool.and_eq_false_iff, Bool.or_eq_false_iff, Bool.not_eq_true', Bool.not_eq_false', Int.not_lt, Int.not_le] at hc6
                have hkb : okB d.C (j : Int) (ac i) = true := by
                  cases h : okB d.C (j : Int) (ac i) with
                  | true => rfl
                  | false => rw [h] at hr6; simp at hr6
                have hC2 : d'.C = d.C.set j (c ++ [ac i]) := by rw [hC', pushR, hkb, if_pos rfl, hlc, Int.toNat_natCast]
                refine WC.draw 10 (.look 0 (.look 1 (.look 2 (.look 3 (.look 4 (.look 5 (.look 6 (.look 7 (.look 8 (.one 9 (.one 10 (.one 11 (.one 12 .nil))))))))))))) (by kernel_rfl) (fun _ _ _ h => h) (fun w1 hw1 => ?_)
                replace hS := hS.bel hw1
                have hS1 := hS
                have hT := St.start w1
                refine ML.look rfl rfl rfl (fun w hw => (by have hS := hS1.bel hw; exact opW.moveI rfl ⟨rfl, rfl⟩)) ?_
                refine ML.look rfl rfl rfl (fun w hw => (by have hS := hS1.bel hw; exact opW.moveI rfl ⟨rfl, rfl⟩)) ?_
                refine ML.look rfl rfl rfl (fun w hw => (by have hS := hS1.bel hw; exact opW.idxArr rfl rfl (by omega) ⟨rfl, rfl⟩)) ?_
                refine ML.look rfl rfl rfl (fun w hw => (by have hS := hS1.bel hw; exact opW.loadV rfl (hS.ld1 (by first | exact .h0 | exact .h1 | exact .h2 | exact .h3 | exact .h4 | exact .h5 | exact .h6 | exact .h7 | exact .h8 | exact .h9 | exact .h10 | exact .h11 | exact .h12 | exact .h13 | exact .h14) (arrJ_at hjt X.tk)) ⟨rfl, rfl⟩)) ?_
                refine ML.look rfl rfl rfl (fun w hw => (by have hS := hS1.bel hw; exact opW.moveV (v := v) rfl ⟨rfl, rfl⟩)) ?_
                refine ML.look rfl rfl rfl (fun w hw => (by have hS := hS1.bel hw; exact opW.moveI rfl ⟨rfl, rfl⟩)) ?_
                refine ML.look rfl rfl rfl (fun w hw => (by have hS := hS1.bel hw; exact opW.idxV rfl ((hx.bel hS.old)) rfl (by omega) ⟨rfl, rfl⟩)) ?_
                refine ML.look rfl rfl rfl (fun w hw => (by have hS := hS1.bel hw; exact opW.fieldAddr rfl ((hx.bel hS.old).isP hi) ⟨rfl, rfl⟩)) ?_
                refine ML.look rfl rfl rfl (fun w hw => (by have hS := hS1.bel hw; exact opW.loadV rfl (Ld.pt1 ((hx.bel hS.old).isPt hi) 2 (Act.at_batch _)) ⟨rfl, rfl⟩)) ?_
                refine ML.one rfl rfl rfl (opW.buildSl hT (([xs[i].batch] : List SlV)) [xs[i].batch.v] rfl rfl rfl rfl (by decide) ?_)
                intro b87 w hw hT
                refine ⟨hT.old, ?_⟩
                have hS := hS1.merge hT
                try simp only [List.cons_append, List.nil_append] at hS
                refine ML.put1 rfl rfl rfl rfl (opW.appendOwn (α := SlV) (v := X.tk.v) (xs := X.tl) rfl hS rfl (by first | exact .h0 | exact .h1 | exact .h2 | exact .h3 | exact .h4 | exact .h5 | exact .h6 | exact .h7 | exact .h8 | exact .h9 | exact .h10 | exact .h11 | exact .h12 | exact .h13 | exact .h14) (hS.sl (xs := ([xs[i].batch] : List SlV)) (by first | exact .h0 | exact .h1 | exact .h2 | exact .h3 | exact .h4 | exact .h5 | exact .h6 | exact .h7 | exact .h8 | exact .h9 | exact .h10 | exact .h11 | exact .h12 | exact .h13 | exact .h14)) (by simp only [List.length_cons, List.length_nil]; omega) (by simp only [maxLen, List.length_cons, List.length_nil]; omega) ?_)
                intro v88 w hS; replace hS := hS _ (by first | exact .h0 | exact .h1 | exact .h2 | exact .h3 | exact .h4 | exact .h5 | exact .h6 | exact .h7 | exact .h8 | exact .h9 | exact .h10 | exact .h11 | exact .h12 | exact .h13 | exact .h14)
                obtain ⟨s88, rfl⟩ := (hS.sl (v := v88) (xs := X.tl ++ [xs[i].batch]) (by first | exact .h0 | exact .h1 | exact .h2 | exact .h3 | exact .h4 | exact .h5 | exact .h6 | exact .h7 | exact .h8 | exact .h9 | exact .h10 | exact .h11 | exact .h12 | exact .h13 | exact .h14)).asV
                refine ML.put1 rfl rfl rfl rfl (opW.idxArr rfl rfl (by omega) ?_)
                refine ML.put0 rfl rfl rfl (opW.storeF (b := b5) (v := s88.v) (sz := 1) (cs' := arr3 ((os.map OrD.tk).set j s88)) hS rfl rfl (by first | exact .h0 | exact .h1 | exact .h2 | exact .h3 | exact .h4 | exact .h5 | exact .h6 | exact .h7 | exact .h8 | exact .h9 | exact .h10 | exact .h11 | exact .h12 | exact .h13 | exact .h14) rfl (by rw [arr3_size, List.length_set]; omega) (Enc.one (α := SlV) s88) (arrJ_set hjt X.tk s88) ?_)
                intro w hS; replace hS := hS _ (by first | exact .h0 | exact .h1 | exact .h2 | exact .h3 | exact .h4 | exact .h5 | exact .h6 | exact .h7 | exact .h8 | exact .h9 | exact .h10 | exact .h11 | exact .h12 | exact .h13 | exact .h14)
                refine ML.nil ?_
                have hfin : ∃ (d2 : LaD) (o2 : List OrD), St w0 (laE p d2 :: blkE b5 (arr3 (o2.map OrD.tk)) 53 :: blkE b6 (arr3 (o2.map OrD.gv)) 53 :: (o2.flatMap orE ++ [])) _ ∧ Inv3 w0 (i + 1) o2 d2.C ∧ LaOk (i + 1) d2 ∧ d2.lv.a.isNone = false := ⟨d', os.set j ({ X with tk := s88, tl := X.tl ++ [xs[i].batch], tc := X.tc ++ [ac i] } : OrD), St.ordIn hjo (X := ({ X with tk := s88, tl := X.tl ++ [xs[i].batch], tc := X.tc ++ [ac i] } : OrD)) hS.drop1, (by rw [hC2]; exact hinv.set (Nat.le_succ i) (hok1.push s88 xs[i].batch (hac i hi).1)), hok', (by rw [hl']; exact hne)⟩
                refine blockQ_n ?_
                refine thenQ_n ?_
                obtain ⟨d2, o2, g1, g2, g3, g4⟩ := hfin
                exact ⟨d2, o2, ⟨rfl, rfl, rfl, rfl, rfl, trivial⟩, g1, g2, g3, g4⟩
              ·
                have hr6 := hc6
                try simp only [decide_eq_true_eq, decide_eq_false_iff_not, Bool.and_eq_true, Bool.or_eq_true, Bool.and_eq_false_iff, Bool.or_eq_false_iff, Bool.not_eq_true', Bool.not_eq_false', Int.not_lt, Int.not_le] at hc6
                have hkb : okB d.C (j : Int) (ac i) = false := by
                  cases h : okB d.C (j : Int) (ac i) with
                  | false => rfl
                  | true => rw [h] at hr6; simp at hr6
                have hC2 : d'.C = d.C.set j c := by rw [hC', pushR, hkb, ← hc, List.set_getElem_self]; rfl
                have hfin : ∃ (d2 : LaD) (o2 : List OrD), St w0 (laE p d2 :: blkE b5 (arr3 (o2.map OrD.tk)) 53 :: blkE b6 (arr3 (o2.map OrD.gv)) 53 :: (o2.flatMap orE ++ [])) _ ∧ Inv3 w0 (i + 1) o2 d2.C ∧ LaOk (i + 1) d2 ∧ d2.lv.a.isNone = false := ⟨d', os.set j X, St.ordIn hjo (X := X) hS, (by rw [hC2]; exact hinv.set (Nat.le_succ i) (hok1.up (Nat.le_succ i))), hok', (by rw [hl']; exact hne)⟩
                refine WC.skip ?_
                refine blockQ_n ?_
                refine thenQ_n ?_
                obtain ⟨d2, o2, g1, g2, g3, g4⟩ := hfin
                exact ⟨d2, o2, ⟨rfl, rfl, rfl, rfl, rfl, trivial⟩, g1, g2, g3, g4⟩
          ·
            rintro f w ⟨d3, o3, hfit, hS, hinv3, hok3, hne3⟩
            refine WC.fits _ hfit (fun g => ?_)
            clear hfit
            refine WC.region ?_
            refine WL.op rfl (opW.moveI rfl ?_)
            refine WL.op rfl (opW.add rfl rfl (wrap_i64 (by omega)) ?_)
            refine WL.op rfl (opW.assignI rfl ?_)
            refine WL.nil ?_
            refine thenQ_n ?_
            exact ⟨xs.length - (i + 1), by omega, i + 1, d3, o3, ⟨rfl, rfl, rfl, rfl, congrArg (Value.int .i64) (by omega), trivial⟩, hS, hinv3, hok3, hne3, by omega, rfl⟩
        ·
          have hr2 := hc2
          try simp only [decide_eq_true_eq, decide_eq_false_iff_not, Bool.and_eq_true, Bool.or_eq_true, Bool.and_eq_false_iff, Bool.or_eq_false_iff, Bool.not_eq_true', Bool.not_eq_false', Int.not_lt, Int.not_le] at hc2
          obtain rfl : i = xs.length := by omega
          refine WC.exit ?_
          refine thenQ_e ?_
          refine thenQ_e ?_
          refine blockQ_hit ?_
          refine thenQ_n (hK9 _ _ ?_)
          refine WC.seq (fun K20 hK20 => ?_)
          refine WC.seq (fun K21 hK21 => ?_)
          refine WC.region ?_
          refine WL.op rfl (opW.assignI rfl ?_)
          refine WL.nil ?_
          refine thenQ_n (hK21 _ _ ?_)
          refine WC.block ?_
          refine WC.loop (fun q2 f w => ∃ (j : Nat) (d : LaD) (os : List OrD), Fits [(3, .pointer (some ⟨p, 0, none⟩)), (5, .pointer (some ⟨b5, 0, none⟩)), (6, .pointer (some ⟨b6, 0, none⟩)), (11, .int .i64 (j : Int))] f ∧ St w0 (laE p d :: blkE b5 (arr3 (os.map OrD.tk)) 53 :: blkE b6 (arr3 (os.map OrD.gv)) 53 :: (os.flatMap orE ++ [])) w ∧ Inv3 w0 xs.length os d.C ∧ LaOk xs.length d ∧ j ≤ 3 ∧ q2 = 3 - j) (3) ?_ ?_
          ·
            exact ⟨0, d, os, ⟨rfl, rfl, rfl, rfl, trivial⟩, hS, hinv, hok, Nat.zero_le _, rfl⟩
          ·
            rintro q2 f w ⟨j, d, os, hfit, hS, hinv, hok, hj0, hm2⟩
            refine WC.fits _ hfit (fun g => ?_)
            clear hfit
            refine WC.seq (fun K22 hK22 => ?_)
            refine WC.seq (fun K23 hK23 => ?_)
            refine WC.region ?_
            refine WL.op rfl (opW.moveI rfl ?_)
            refine WL.op rfl (opW.lss rfl rfl ?_)
            refine WL.nil ?_
            refine thenQ_n (hK23 _ _ ?_)
            refine WC.cond _ rfl (fun hc7 => ?_) (fun hc7 => ?_)
            ·
              have hr7 := hc7
              try simp only [decide_eq_true_eq, decide_eq_false_iff_not, Bool.and_eq_true, Bool.or_eq_true, Bool.and_eq_false_iff, Bool.or_eq_false_iff, Bool.not_eq_true', Bool.not_eq_false', Int.not_lt, Int.not_le] at hc7
              have hj3 : j < 3 := by omega
              have hjo : j < os.length := by rw [hinv.l1]; exact hj3
              have hjC : j < d.C.length := by rw [hinv.l2]; exact hj3
              have hjt : j < (os.map OrD.tk).length := by rw [List.length_map]; exact hjo
              have hjg : j < (os.map OrD.gv).length := by rw [List.length_map]; exact hjo
              obtain ⟨X, hX⟩ : ∃ X, os[j] = X := ⟨_, rfl⟩
              obtain ⟨c, hc⟩ : ∃ c, d.C[j] = c := ⟨_, rfl⟩
              have hok1 := hinv.all j hjo hjC
              rw [hX, hc] at hok1
              have hlc : laneC d.C (j : Int) = c := by rw [laneC_at hjC, hc]
              have hgl := hok1.glen
              have hbd := hok1.bd
              replace hS := hS.ordOut hjo hX
              refine WC.skip ?_
              refine thenQ_n (hK22 _ _ ?_)
              refine WC.seq (fun K24 hK24 => ?_)
              refine WC.block ?_
              refine WC.seq (fun K25 hK25 => ?_)
              refine WC.block ?_
              refine WC.loop (fun q3 f w => ∃ (d2 : LaD) (X2 : OrD) (c2 : List (List I64)), Fits [(3, .pointer (some ⟨p, 0, none⟩)), (5, .pointer (some ⟨b5, 0, none⟩)), (6, .pointer (some ⟨b6, 0, none⟩)), (11, .int .i64 (j : Int))] f ∧ St w0 (laE p d2 :: blkE b5 (arr3 ((os.map OrD.tk).set j X2.tk)) 53 :: blkE b6 (arr3 ((os.map OrD.gv).set j X2.gv)) 53 :: ownE X2.tk.v 32 X2.tl :: ownE X2.gv.v 32 (X2.gl.map Prod.fst) :: (bE X2.gl ++ (rO os j ++ []))) w ∧ d2.C = d.C.set j c2 ∧ OrOk w0 xs.length X2 c2 ∧ LaOk xs.length d2 ∧ q3 = c2.length) (c.length) ?_ ?_
              ·
                exact ⟨d, X, c, ⟨rfl, rfl, rfl, rfl, trivial⟩, hS, (by rw [← hc, List.set_getElem_self]), hok1, hok, rfl⟩
              ·
                rintro q3 f w ⟨d2, X2, c2, hfit, hS, hCC, hok2, hokd, hm3⟩
                refine WC.fits _ hfit (fun g => ?_)
                clear hfit
                refine WC.seq (fun K26 hK26 => ?_)
                refine WC.seq (fun K27 hK27 => ?_)
                refine WC.draw 9 (.look 0 (.look 1 (.look 2 (.look 3 (.look 4 (.look 5 (.look 6 (.look 7 (.look 8 .nil))))))))) (by kernel_rfl) (fun _ _ _ h => h) (fun w1 hw1 => ?_)
                replace hS := hS.bel hw1
                have hS1 := hS
                have hT := St.start w1
                have hgl2 := hok2.glen
                have hbd2 := hok2.bd
                refine ML.look rfl rfl rfl (fun w hw => (by have hS := hS1.bel hw; exact opW.moveI rfl ⟨rfl, rfl⟩)) ?_
                refine ML.look rfl rfl rfl (fun w hw => (by have hS := hS1.bel hw; exact opW.idxArr rfl rfl (by omega) ⟨rfl, rfl⟩)) ?_
                refine ML.look rfl rfl rfl (fun w hw => (by have hS := hS1.bel hw; exact opW.loadV rfl (hS.ld1 (by first | exact .h0 | exact .h1 | exact .h2 | exact .h3 | exact .h4 | exact .h5 | exact .h6 | exact .h7 | exact .h8 | exact .h9 | exact .h10 | exact .h11 | exact .h12 | exact .h13 | exact .h14) (arrJ_at hjg X2.gv)) ⟨rfl, rfl⟩)) ?_
                refine ML.look rfl rfl rfl (fun w hw => (by have hS := hS1.bel hw; exact opW.lenV rfl (hS.sl (v := X2.gv.v) (xs := X2.gl.map Prod.fst) (by first | exact .h0 | exact .h1 | exact .h2 | exact .h3 | exact .h4 | exact .h5 | exact .h6 | exact .h7 | exact .h8 | exact .h9 | exact .h10 | exact .h11 | exact .h12 | exact .h13 | exact .h14)) ⟨rfl, rfl⟩)) ?_
                refine ML.look rfl rfl rfl (fun w hw => (by have hS := hS1.bel hw; exact opW.moveI rfl ⟨rfl, rfl⟩)) ?_
                refine ML.look rfl rfl rfl (fun w hw => (by have hS := hS1.bel hw; exact opW.idxArr rfl rfl (by omega) ⟨rfl, rfl⟩)) ?_
                refine ML.look rfl rfl rfl (fun w hw => (by have hS := hS1.bel hw; exact opW.loadV rfl (hS.ld1 (by first | exact .h0 | exact .h1 | exact .h2 | exact .h3 | exact .h4 | exact .h5 | exact .h6 | exact .h7 | exact .h8 | exact .h9 | exact .h10 | exact .h11 | exact .h12 | exact .h13 | exact .h14) (arrJ_at hjt X2.tk)) ⟨rfl, rfl⟩)) ?_
                refine ML.look rfl rfl rfl (fun w hw => (by have hS := hS1.bel hw; exact opW.lenV rfl (hS.sl (v := X2.tk.v) (xs := X2.tl) (by first | exact .h0 | exact .h1 | exact .h2 | exact .h3 | exact .h4 | exact .h5 | exact .h6 | exact .h7 | exact .h8 | exact .h9 | exact .h10 | exact .h11 | exact .h12 | exact .h13 | exact .h14)) ⟨rfl, rfl⟩)) ?_
                refine ML.look rfl rfl rfl (fun w hw => (by have hS := hS1.bel hw; exact opW.lss rfl rfl ⟨rfl, rfl⟩)) ?_
                refine ML.nil ?_
                refine thenQ_n (hK27 _ _ ?_)
                refine WC.cond _ rfl (fun hc8 => ?_) (fun hc8 => ?_)
                ·
                  have hr8 := hc8
                  try simp only [decide_eq_true_eq, decide_eq_false_iff_not, Bool.and_eq_true, Bool.or_eq_true, Bool.and_eq_false_iff, Bool.or_eq_false_iff, Bool.not_eq_true', Bool.not_eq_false', Int.not_lt, Int.not_le] at hc8
                  obtain ⟨c0, c1, rfl⟩ : ∃ c0 c1, c2 = c0 :: c1 := by
                    cases c2 with
                    | nil => rw [List.length_map] at hr8; simp at hr8; simp at hgl2; omega
                    | cons a l => exact ⟨a, l, rfl⟩
                  refine WC.skip ?_
                  refine thenQ_n (hK26 _ _ ?_)
                  refine WC.block ?_
                  refine WC.seq (fun K28 hK28 => ?_)
                  refine WC.region ?_
                  refine WL.op rfl (opW.moveV (v := .pointer (some ⟨p, 0, none⟩)) rfl ?_)
                  refine WL.op rfl (opW.moveI rfl ?_)
                  refine WL.op rfl (opW.call (popL_ok _ _ _ p d2 xs.length (j : Int) (hS.pick (e := laE p d2) (by first | exact .h0 | exact .h1 | exact .h2 | exact .h3 | exact .h4 | exact .h5 | exact .h6 | exact .h7 | exact .h8 | exact .h9 | exact .h10 | exact .h11 | exact .h12 | exact .h13 | exact .h14)) hokd (by omega)) rfl ?_)
                  rintro v w ⟨b, d', hv, hb, hC', hl', hok', hS⟩
                  have hlc2 : laneC d2.C (j : Int) = c0 :: c1 := by rw [hCC, laneC_at (by rw [List.length_set]; exact hjC), List.getElem_set_self]
                  rw [hlc2] at hv hb
                  have hC2 : d'.C = d.C.set j c1 := by rw [hC', popR, inR_nat (by rw [hCC, List.length_set]; exact hjC), if_pos rfl, hlc2, Int.toNat_natCast, hCC, List.set_set]; rfl
                  replace hb : b.2 = c0 := hb
                  subst hb
                  replace hv : v = .tuple #[b.1.v, .bool true] := hv
                  subst hv
                  refine WL.op rfl (opW.moveV (v := .tuple #[b.1.v, .bool true]) rfl ?_)
                  refine WL.op rfl (opW.extract rfl rfl ?_)
                  refine WL.op rfl (opW.extract rfl rfl ?_)
                  refine WL.op rfl (opW.assignV (v := b.1.v) rfl ?_)
                  refine WL.op rfl (opW.assignB rfl ?_)
                  refine WL.nil ?_
                  refine thenQ_n (hK28 _ _ ?_)
                  refine WC.seq (fun K29 hK29 => ?_)
                  refine WC.seq (fun K30 hK30 => ?_)
                  refine WC.region ?_
                  refine WL.op rfl (opW.moveB rfl ?_)
                  refine WL.op rfl (opW.not rfl ?_)
                  refine WL.nil ?_
                  refine thenQ_n (hK30 _ _ ?_)
                  refine WC.cond _ rfl (fun hc9 => ?_) (fun hc9 => ?_)
                  ·
                    have hr9 := hc9
                    try simp only [decide_eq_true_eq, decide_eq_false_iff_not, Bool.and_eq_true, Bool.or_eq_true, Bool.and_eq_false_iff, Bool.or_eq_false_iff, Bool.not_eq_true', Bool.not_eq_false', Int.not_lt, Int.not_le] at hc9
                    simp at hr9
                  ·
                    have hr9 := hc9
                    try simp only [decide_eq_true_eq, decide_eq_false_iff_not, Bool.and_eq_true, Bool.or_eq_true, Bool.and_eq_false_iff, Bool.or_eq_false_iff, Bool.not_eq_true', Bool.not_eq_false', Int.not_lt, Int.not_le] at hc9
                    refine WC.skip ?_
                    refine thenQ_n (hK29 _ _ ?_)
                    refine WC.region ?_
                    refine WL.op rfl (opW.moveI rfl ?_)
                    refine WL.op rfl (opW.moveI rfl ?_)
                    refine WL.op rfl (opW.idxArr rfl rfl (by omega) ?_)
                    refine WL.op rfl (opW.loadV rfl (hS.ld1 (by first | exact .h0 | exact .h1 | exact .h2 | exact .h3 | exact .h4 | exact .h5 | exact .h6 | exact .h7 | exact .h8 | exact .h9 | exact .h10 | exact .h11 | exact .h12 | exact .h13 | exact .h14) (arrJ_at hjg X2.gv)) ?_)
                    refine WL.op rfl (opW.moveV (v := b.1.v) rfl ?_)
                    refine WL.op rfl (opW.buildSl hS (([b.1] : List SlV)) [b.1.v] rfl rfl rfl rfl (by decide) ?_)
                    intro b116 w hw hS
                    refine WL.op rfl (opW.appendOwn (α := SlV) (v := X2.gv.v) (xs := X2.gl.map Prod.fst) rfl hS rfl (by first | exact .h0 | exact .h1 | exact .h2 | exact .h3 | exact .h4 | exact .h5 | exact .h6 | exact .h7 | exact .h8 | exact .h9 | exact .h10 | exact .h11 | exact .h12 | exact .h13 | exact .h14) (hS.sl (xs := ([b.1] : List SlV)) (by first | exact .h0 | exact .h1 | exact .h2 | exact .h3 | exact .h4 | exact .h5 | exact .h6 | exact .h7 | exact .h8 | exact .h9 | exact .h10 | exact .h11 | exact .h12 | exact .h13 | exact .h14)) (by rw [List.length_map]; simp only [List.length_cons, List.length_nil]; omega) (by rw [List.length_map]; simp only [maxLen, List.length_cons, List.length_nil]; omega) ?_)
                    intro v117 w hS; replace hS := hS _ (by first | exact .h0 | exact .h1 | exact .h2 | exact .h3 | exact .h4 | exact .h5 | exact .h6 | exact .h7 | exact .h8 | exact .h9 | exact .h10 | exact .h11 | exact .h12 | exact .h13 | exact .h14)
                    obtain ⟨s117, rfl⟩ := (hS.sl (v := v117) (xs := X2.gl.map Prod.fst ++ [b.1]) (by first | exact .h0 | exact .h1 | exact .h2 | exact .h3 | exact .h4 | exact .h5 | exact .h6 | exact .h7 | exact .h8 | exact .h9 | exact .h10 | exact .h11 | exact .h12 | exact .h13 | exact .h14)).asV
                    rw [show X2.gl.map Prod.fst ++ [b.1] = (X2.gl ++ [b]).map Prod.fst from (by simp)] at hS
                    refine WL.op rfl (opW.idxArr rfl rfl (by omega) ?_)
                    refine WL.op0 (opW.storeF (b := b6) (v := s117.v) (sz := 1) (cs' := arr3 ((os.map OrD.gv).set j s117)) hS rfl rfl (by first | exact .h0 | exact .h1 | exact .h2 | exact .h3 | exact .h4 | exact .h5 | exact .h6 | exact .h7 | exact .h8 | exact .h9 | exact .h10 | exact .h11 | exact .h12 | exact .h13 | exact .h14) rfl (by rw [arr3_size, List.length_set]; omega) (Enc.one (α := SlV) s117) (arrJ_set hjg X2.gv s117) ?_)
                    intro w hS; replace hS := hS _ (by first | exact .h0 | exact .h1 | exact .h2 | exact .h3 | exact .h4 | exact .h5 | exact .h6 | exact .h7 | exact .h8 | exact .h9 | exact .h10 | exact .h11 | exact .h12 | exact .h13 | exact .h14)
                    refine WL.nil ?_
                    refine blockQ_n ?_
                    refine thenQ_n ?_
                    exact ⟨c1.length, by simp only [List.length_cons] at hm3; omega, d', ({ X2 with gv := s117, gl := X2.gl ++ [b] } : OrD), c1, ⟨rfl, rfl, rfl, rfl, trivial⟩, St.pushB [_, _, _, _, _] (b := b) hS.drop1, hC2, hok2.pop s117, hok', rfl⟩
                ·
                  have hr8 := hc8
                  try simp only [decide_eq_true_eq, decide_eq_false_iff_not, Bool.and_eq_true, Bool.or_eq_true, Bool.and_eq_false_iff, Bool.or_eq_false_iff, Bool.not_eq_true', Bool.not_eq_false', Int.not_lt, Int.not_le] at hc8
                  obtain rfl : c2 = [] := by
                    rw [List.length_map] at hr8; simp at hr8
                    exact List.length_eq_zero_iff.1 (by omega)
                  refine WC.exit ?_
                  refine thenQ_e ?_
                  refine thenQ_e ?_
                  refine blockQ_hit ?_
                  refine thenQ_n (hK25 _ _ ?_)
                  refine WC.seq (fun K31 hK31 => ?_)
                  refine WC.region ?_
                  refine WL.op rfl (opW.moveV (v := .pointer (some ⟨p, 0, none⟩)) rfl ?_)
                  refine WL.op rfl (opW.moveI rfl ?_)
                  refine WL.op rfl (opW.call (popL_ok _ _ _ p d2 xs.length (j : Int) (hS.pick (e := laE p d2) (by first | exact .h0 | exact .h1 | exact .h2 | exact .h3 | exact .h4 | exact .h5 | exact .h6 | exact .h7 | exact .h8 | exact .h9 | exact .h10 | exact .h11 | exact .h12 | exact .h13 | exact .h14)) hokd (by omega)) rfl ?_)
                  rintro v w ⟨b, d', hv, hb, hC', hl', hok', hS⟩
                  have hlc2 : laneC d2.C (j : Int) = [] := by rw [hCC, laneC_at (by rw [List.length_set]; exact hjC), List.getElem_set_self]
                  rw [hlc2] at hv hb
                  have hC2 : d'.C = d.C.set j [] := by rw [hC', popR, inR_nat (by rw [hCC, List.length_set]; exact hjC), if_pos rfl, hlc2, Int.toNat_natCast, hCC, List.set_set]; rfl
                  replace hv : v = .tuple #[b.1.v, .bool false] := hv
                  subst hv
                  refine WL.op rfl (opW.moveV (v := .tuple #[b.1.v, .bool false]) rfl ?_)
                  refine WL.op rfl (opW.extract rfl rfl ?_)
                  refine WL.op rfl (opW.extract rfl rfl ?_)
                  refine WL.op rfl (opW.assignV (v := b.1.v) rfl ?_)
                  refine WL.op rfl (opW.assignB rfl ?_)
                  refine WL.nil ?_
                  refine thenQ_n (hK31 _ _ ?_)
                  refine WC.seq (fun K32 hK32 => ?_)
                  refine WC.draw 19 (.look 0 (.look 1 (.look 2 (.look 3 (.one 4 (.look 5 (.look 6 (.look 7 (.look 8 (.look 9 (.look 10 (.look 12 (.look 13 (.look 14 (.fork 11 15 (.one 15 (.one 16 (.look 17 (.look 18 .nil)))) (.one 11 (.one 16 (.look 17 (.look 18 .nil))))))))))))))))))) (by kernel_rfl) (fun _ _ _ h => h) (fun w1 hw1 => ?_)
                  replace hS := hS.bel hw1
                  have hS1 := hS
                  have hT := St.start w1
                  have hcn : cntC d'.C (j : Int) = 0 := by rw [cntC, hC2, laneC_at (by rw [List.length_set]; exact hjC), List.getElem_set_self]; rfl
                  refine ML.look rfl rfl rfl (fun w hw => (by have hS := hS1.bel hw; exact opW.moveB rfl ⟨rfl, rfl⟩)) ?_
                  refine ML.look rfl rfl rfl (fun w hw => (by have hS := hS1.bel hw; exact opW.moveB rfl ⟨rfl, rfl⟩)) ?_
                  refine ML.lookT 126 rfl rfl rfl rfl rfl rfl (fun w hw => (by have hS := hS1.bel hw; exact opW.moveV (v := .pointer (some ⟨p, 0, none⟩)) rfl ⟨rfl, rfl⟩)) ?_
                  refine ML.lookT 126 rfl rfl rfl rfl rfl rfl (fun w hw => (by have hS := hS1.bel hw; exact opW.moveI rfl ⟨rfl, rfl⟩)) ?_
                  refine ML.oneT 126 rfl rfl rfl rfl rfl rfl (opW.call (count_ok _ p d' (j : Int) (hS.laAt (by first | exact .h0 | exact .h1 | exact .h2 | exact .h3 | exact .h4 | exact .h5 | exact .h6 | exact .h7 | exact .h8 | exact .h9 | exact .h10 | exact .h11 | exact .h12 | exact .h13 | exact .h14))) rfl ?_)
                  rintro v w ⟨hv, hw⟩; replace hT := hT.bel hw
                  replace hv : v = .int .i64 0 := by rw [hv, hcn]; rfl
                  subst hv
                  refine ⟨hT.old, ?_⟩
                  have hS := hS1.merge hT
                  try simp only [List.cons_append, List.nil_append] at hS
                  refine ML.lookT 126 rfl rfl rfl rfl rfl rfl (fun w hw => (by have hS := hS1.bel hw; exact opW.boolF (by decide) (opW.neq rfl rfl ⟨rfl, rfl⟩) ⟨rfl, rfl⟩)) ?_
                  refine ML.look rfl rfl rfl (fun w hw => (by have hS := hS1.bel hw; exact opW.pickT rfl rfl ⟨rfl, rfl⟩)) ?_
                  refine ML.look rfl rfl rfl (fun w hw => (by have hS := hS1.bel hw; exact opW.moveB rfl ⟨rfl, rfl⟩)) ?_
                  refine ML.lookT 132 rfl rfl rfl rfl rfl rfl (fun w hw => (by have hS := hS1.bel hw; exact opW.moveI rfl ⟨rfl, rfl⟩)) ?_
                  refine ML.lookT 132 rfl rfl rfl rfl rfl rfl (fun w hw => (by have hS := hS1.bel hw; exact opW.idxArr rfl rfl (by omega) ⟨rfl, rfl⟩)) ?_
                  refine ML.lookT 132 rfl rfl rfl rfl rfl rfl (fun w hw => (by have hS := hS1.bel hw; exact opW.loadV rfl (hS.ld1 (by first | exact .h0 | exact .h1 | exact .h2 | exact .h3 | exact .h4 | exact .h5 | exact .h6 | exact .h7 | exact .h8 | exact .h9 | exact .h10 | exact .h11 | exact .h12 | exact .h13 | exact .h14) (arrJ_at hjg X2.gv)) ⟨rfl, rfl⟩)) ?_
                  refine ML.lookT 132 rfl rfl rfl rfl rfl rfl (fun w hw => (by have hS := hS1.bel hw; exact opW.moveI rfl ⟨rfl, rfl⟩)) ?_
                  refine ML.lookT 132 rfl rfl rfl rfl rfl rfl (fun w hw => (by have hS := hS1.bel hw; exact opW.idxArr rfl rfl (by omega) ⟨rfl, rfl⟩)) ?_
                  refine ML.lookT 132 rfl rfl rfl rfl rfl rfl (fun w hw => (by have hS := hS1.bel hw; exact opW.loadV rfl (hS.ld1 (by first | exact .h0 | exact .h1 | exact .h2 | exact .h3 | exact .h4 | exact .h5 | exact .h6 | exact .h7 | exact .h8 | exact .h9 | exact .h10 | exact .h11 | exact .h12 | exact .h13 | exact .h14) (arrJ_at hjt X2.tk)) ⟨rfl, rfl⟩)) ?_
                  refine ML.forkT 132 rfl rfl rfl rfl rfl rfl rfl ?_ ?_
                  · refine opW.buildSl hT (([X2.gv] : List SlV)) [X2.gv.v] rfl rfl rfl rfl (by decide) ?_
                    intro b136 w hw hT
                    refine ⟨hT.old, ?_⟩
                    have hS := hS1.merge hT
                    try simp only [List.cons_append, List.nil_append] at hS
                    refine ML.oneT 132 rfl rfl rfl rfl rfl rfl (opW.buildSl hT (([X2.tk] : List SlV)) [X2.tk.v] rfl rfl rfl rfl (by decide) ?_)
                    intro b140 w hw hT
                    refine ⟨hT.old, ?_⟩
                    have hS := hS1.merge hT
                    try simp only [List.cons_append, List.nil_append] at hS
                    refine ML.oneT 132 rfl rfl rfl rfl rfl rfl (opW.call (alike_ok _ _ _ [X2.gl.map Prod.snd] [X2.tc] (nest1 (hS.sl (v := .slice (some ⟨b136, 0, none⟩) 1 1) (xs := ([X2.gv] : List SlV)) (by first | exact .h0 | exact .h1 | exact .h2 | exact .h3 | exact .h4 | exact .h5 | exact .h6 | exact .h7 | exact .h8 | exact .h9 | exact .h10 | exact .h11 | exact .h12 | exact .h13 | exact .h14)) (lan_gv (hS.sl (v := X2.gv.v) (xs := X2.gl.map Prod.fst) (by first | exact .h0 | exact .h1 | exact .h2 | exact .h3 | exact .h4 | exact .h5 | exact .h6 | exact .h7 | exact .h8 | exact .h9 | exact .h10 | exact .h11 | exact .h12 | exact .h13 | exact .h14)) (hS.bEr (fun e he => by simp [he])))) (nest1 (hS.sl (v := .slice (some ⟨b140, 0, none⟩) 1 1) (xs := ([X2.tk] : List SlV)) (by first | exact .h0 | exact .h1 | exact .h2 | exact .h3 | exact .h4 | exact .h5 | exact .h6 | exact .h7 | exact .h8 | exact .h9 | exact .h10 | exact .h11 | exact .h12 | exact .h13 | exact .h14)) ⟨X2.tl, hS.sl (v := X2.tk.v) (xs := X2.tl) (by first | exact .h0 | exact .h1 | exact .h2 | exact .h3 | exact .h4 | exact .h5 | exact .h6 | exact .h7 | exact .h8 | exact .h9 | exact .h10 | exact .h11 | exact .h12 | exact .h13 | exact .h14), hok2.len, fun m h1 h2 => (hok2.rd m h1 h2).bel hS.old⟩)) rfl ?_)
                    rintro v w ⟨hv, hw⟩; replace hT := hT.bel hw
                    replace hv : v = .bool true := by rw [hv, hok2.eq, List.append_nil, decide_eq_true rfl]
                    subst hv
                    refine ⟨hT.old, ?_⟩
                    have hS := hS1.merge hT
                    try simp only [List.cons_append, List.nil_append] at hS
                    refine ML.lookT 132 rfl rfl rfl rfl rfl rfl (fun w hw => (by have hS := hS1.bel hw; exact opW.not rfl ⟨rfl, rfl⟩)) ?_
                    refine ML.look rfl rfl rfl (fun w hw => (by have hS := hS1.bel hw; exact opW.pickT rfl rfl ⟨rfl, rfl⟩)) ?_
                    refine ML.nil ?_
                    refine thenQ_n (hK32 _ _ ?_)
                    refine WC.cond _ rfl (fun hc10 => ?_) (fun hc10 => ?_)
                    ·
                      have hr10 := hc10
                      try simp only [decide_eq_true_eq, decide_eq_false_iff_not, Bool.and_eq_true, Bool.or_eq_true, Bool.and_eq_false_iff, Bool.or_eq_false_iff, Bool.not_eq_true', Bool.not_eq_false', Int.not_lt, Int.not_le] at hc10
                      exact absurd hr10 (by decide)
                    ·
                      have hr10 := hc10
                      try simp only [decide_eq_true_eq, decide_eq_false_iff_not, Bool.and_eq_true, Bool.or_eq_true, Bool.and_eq_false_iff, Bool.or_eq_false_iff, Bool.not_eq_true', Bool.not_eq_false', Int.not_lt, Int.not_le] at hc10
                      refine WC.skip ?_
                      refine blockQ_n ?_
                      refine thenQ_n (hK24 _ _ ?_)
                      refine WC.region ?_
                      refine WL.op rfl (opW.moveI rfl ?_)
                      refine WL.op rfl (opW.add rfl rfl (wrap_i64 (by omega)) ?_)
                      refine WL.op rfl (opW.assignI rfl ?_)
                      refine WL.nil ?_
                      refine thenQ_n ?_
                      exact ⟨3 - (j + 1), by omega, j + 1, d', os.set j X2, ⟨rfl, rfl, rfl, congrArg (Value.int .i64) (by omega), trivial⟩, St.ordIn hjo (X := X2) hS.drop1.drop1.drop1, (by rw [hC2]; exact hinv.set (Nat.le_refl _) hok2), hok', by omega, rfl⟩
                  · refine opW.buildSl hT (([X2.tk] : List SlV)) [X2.tk.v] rfl rfl rfl rfl (by decide) ?_
                    intro b140 w hw hT
                    refine ⟨hT.old, ?_⟩
                    have hS := hS1.merge hT
                    try simp only [List.cons_append, List.nil_append] at hS
                    refine ML.oneT 132 rfl rfl rfl rfl rfl rfl (opW.buildSl hT (([X2.gv] : List SlV)) [X2.gv.v] rfl rfl rfl rfl (by decide) ?_)
                    intro b136 w hw hT
                    refine ⟨hT.old, ?_⟩
                    have hS := hS1.merge hT
                    try simp only [List.cons_append, List.nil_append] at hS
                    refine ML.oneT 132 rfl rfl rfl rfl rfl rfl (opW.call (alike_ok _ _ _ [X2.gl.map Prod.snd] [X2.tc] (nest1 (hS.sl (v := .slice (some ⟨b136, 0, none⟩) 1 1) (xs := ([X2.gv] : List SlV)) (by first | exact .h0 | exact .h1 | exact .h2 | exact .h3 | exact .h4 | exact .h5 | exact .h6 | exact .h7 | exact .h8 | exact .h9 | exact .h10 | exact .h11 | exact .h12 | exact .h13 | exact .h14)) (lan_gv (hS.sl (v := X2.gv.v) (xs := X2.gl.map Prod.fst) (by first | exact .h0 | exact .h1 | exact .h2 | exact .h3 | exact .h4 | exact .h5 | exact .h6 | exact .h7 | exact .h8 | exact .h9 | exact .h10 | exact .h11 | exact .h12 | exact .h13 | exact .h14)) (hS.bEr (fun e he => by simp [he])))) (nest1 (hS.sl (v := .slice (some ⟨b140, 0, none⟩) 1 1) (xs := ([X2.tk] : List SlV)) (by first | exact .h0 | exact .h1 | exact .h2 | exact .h3 | exact .h4 | exact .h5 | exact .h6 | exact .h7 | exact .h8 | exact .h9 | exact .h10 | exact .h11 | exact .h12 | exact .h13 | exact .h14)) ⟨X2.tl, hS.sl (v := X2.tk.v) (xs := X2.tl) (by first | exact .h0 | exact .h1 | exact .h2 | exact .h3 | exact .h4 | exact .h5 | exact .h6 | exact .h7 | exact .h8 | exact .h9 | exact .h10 | exact .h11 | exact .h12 | exact .h13 | exact .h14), hok2.len, fun m h1 h2 => (hok2.rd m h1 h2).bel hS.old⟩)) rfl ?_)
                    rintro v w ⟨hv, hw⟩; replace hT := hT.bel hw
                    replace hv : v = .bool true := by rw [hv, hok2.eq, List.append_nil, decide_eq_true rfl]
                    subst hv
                    refine ⟨hT.old, ?_⟩
                    have hS := hS1.merge hT
                    try simp only [List.cons_append, List.nil_append] at hS
                    refine ML.lookT 132 rfl rfl rfl rfl rfl rfl (fun w hw => (by have hS := hS1.bel hw; exact opW.not rfl ⟨rfl, rfl⟩)) ?_
                    refine ML.look rfl rfl rfl (fun w hw => (by have hS := hS1.bel hw; exact opW.pickT rfl rfl ⟨rfl, rfl⟩)) ?_
                    refine ML.nil ?_
                    refine thenQ_n (hK32 _ _ ?_)
                    refine WC.cond _ rfl (fun hc10 => ?_) (fun hc10 => ?_)
                    ·
                      have hr10 := hc10
                      try simp only [decide_eq_true_eq, decide_eq_false_iff_not, Bool.and_eq_true, Bool.or_eq_true, Bool.and_eq_false_iff, Bool.or_eq_false_iff, Bool.not_eq_true', Bool.not_eq_false', Int.not_lt, Int.not_le] at hc10
                      exact absurd hr10 (by decide)
                    ·
                      have hr10 := hc10
                      try simp only [decide_eq_true_eq, decide_eq_false_iff_not, Bool.and_eq_true, Bool.or_eq_true, Bool.and_eq_false_iff, Bool.or_eq_false_iff, Bool.not_eq_true', Bool.not_eq_false', Int.not_lt, Int.not_le] at hc10
                      refine WC.skip ?_
                      refine blockQ_n ?_
                      refine thenQ_n (hK24 _ _ ?_)
                      refine WC.region ?_
                      refine WL.op rfl (opW.moveI rfl ?_)
                      refine WL.op rfl (opW.add rfl rfl (wrap_i64 (by omega)) ?_)
                      refine WL.op rfl (opW.assignI rfl ?_)
                      refine WL.nil ?_
                      refine thenQ_n ?_
                      exact ⟨3 - (j + 1), by omega, j + 1, d', os.set j X2, ⟨rfl, rfl, rfl, congrArg (Value.int .i64) (by omega), trivial⟩, St.ordIn hjo (X := X2) hS.drop1.drop1.drop1, (by rw [hC2]; exact hinv.set (Nat.le_refl _) hok2), hok', by omega, rfl⟩
            ·
              have hr7 := hc7
              try simp only [decide_eq_true_eq, decide_eq_false_iff_not, Bool.and_eq_true, Bool.or_eq_true, Bool.and_eq_false_iff, Bool.or_eq_false_iff, Bool.not_eq_true', Bool.not_eq_false', Int.not_lt, Int.not_le] at hc7
              refine WC.exit ?_
              refine thenQ_e ?_
              refine thenQ_e ?_
              refine blockQ_hit ?_
              refine thenQ_n (hK20 _ _ ?_)
              refine WC.seq (fun K33 hK33 => ?_)
              refine WC.region ?_
              refine WL.op rfl (opW.call (lives_ok _) rfl ?_)
              rintro _ w ⟨rfl, hw⟩; replace hS := hS.bel hw
              refine WL.op rfl (opW.assignB rfl ?_)
              refine WL.nil ?_
              refine thenQ_n (hK33 _ _ ?_)
              refine WC.ret ?_
              refine bodyQ_ret (.tmpB rfl .nil) ?_
              exact ⟨rfl, hS.old⟩

end Go.Fer
