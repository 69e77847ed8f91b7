/- QueuesPlay -/
import Derived.Test.YtppgmnljciakhaaS
set_option linter.all false
namespace Go.Fer
open Go Go.Proofs Go.RowKit

theorem bE_flat (q : List Bt) : bE q = q.flatMap (fun b => [ownE b.1.v 3 b.2]) := by
  induction q with
  | nil => rfl
  | cons b q ih => rw [List.flatMap_cons, ← ih]; rfl
theorem St.batOut (A : List Ent) {w0 w : World} {S : List Ent} {bs : List Bt} {m : Nat} (hm : m < bs.length) (hS : St w0 (A ++ (bE bs ++ S)) w) : St w0 (ownE bs[m].1.v 3 bs[m].2 :: (A ++ (bE (bs.set m nb) ++ S))) w := by
  rw [bE_flat] at hS
  have h1 := St.nthOut (fun b : Bt => [ownE b.1.v 3 b.2]) A hm hS
  have h2 : St w0 (ownE bs[m].1.v 3 bs[m].2 :: (A ++ ((bs.take m ++ bs.drop (m + 1)).flatMap (fun b : Bt => [ownE b.1.v 3 b.2]) ++ S))) w := h1.perm (List.perm_middle (l₁ := A) (l₂ := (bs.take m ++ bs.drop (m + 1)).flatMap (fun b : Bt => [ownE b.1.v 3 b.2]) ++ S) (a := ownE bs[m].1.v 3 bs[m].2))
  have h3 := (h2.nilOwn (α := I64) 3).swap
  have h4 := h3.perm (.cons _ (List.perm_middle (l₁ := A) (l₂ := (bs.take m ++ bs.drop (m + 1)).flatMap (fun b : Bt => [ownE b.1.v 3 b.2]) ++ S) (a := ownE (.slice none 0 0) 3 ([] : List I64))).symm)
  have h5 := St.nthIn (fun b : Bt => [ownE b.1.v 3 b.2]) (ownE bs[m].1.v 3 bs[m].2 :: A) hm (x := nb) h4
  rw [← bE_flat] at h5
  exact h5

theorem play_bad (w0 : World) (wk : Int) (v : Value) (xs : List Act) (ac : Nat → List I64) (hx : SlR w0 v xs) (hac : ∀ i (hi : i < xs.length), SlR w0 xs[i].batch.v (ac i) ∧ (ac i).length ≤ 17592186044416) (hxb : xs.length ≤ 17592186044416) (hb : inR (wk - 1) 64 = false) : Ret Try.prog 3 #[.int .i64 wk, v] w0 (fun r w' => r = .bool true ∧ Bel w0 w') := by
  refine Ret.enter (args := [.int .i64 wk, v]) Try.func3 rfl Try.ntmps3 Try.results3 rfl ?_
  have hS := St.start w0
  refine WC.seq (fun K1 hK1 => ?_)
  refine WC.region ?_
  refine WL.op rfl (opW.assignB rfl ?_)
  refine WL.nil ?_
  refine thenQ_n (hK1 _ _ ?_)
  refine WC.seq (fun K2 hK2 => ?_)
  refine WC.seq (fun K3 hK3 => ?_)
  refine WC.region ?_
  refine WL.op rfl (opW.moveV (v := v) rfl ?_)
  refine WL.op rfl (opW.call (great_ok _ v xs ac (hx.bel hS.old) (fun i hi => (hac i hi).1.bel hS.old) hxb (fun i hi => (hac i hi).2)) rfl ?_)
  rintro _ w ⟨bb, rfl, hbb, hw⟩; replace hS := hS.bel hw
  refine WL.nil ?_
  refine thenQ_n (hK3 _ _ ?_)
  refine WC.cond _ rfl (fun hc0 => ?_) (fun hc0 => ?_)
  ·
    have hr0 := hc0
    try simp only [decide_eq_true_eq, decide_eq_false_iff_not, Bool.and_eq_true, Bool.or_eq_true, Bool.and_eq_false_iff, Bool.or_eq_false_iff, Bool.not_eq_true', Bool.not_eq_false', Int.not_lt, Int.not_le] at hc0
    refine WC.seq (fun K4 hK4 => ?_)
    refine WC.region ?_
    refine WL.op rfl (opW.call (lives_ok _) rfl ?_)
    rintro _ w ⟨rfl, hw⟩; replace hS := hS.bel hw
    refine WL.op rfl (opW.assignB rfl ?_)
    refine WL.nil ?_
    refine thenQ_n (hK4 _ _ ?_)
    refine WC.ret ?_
    refine thenQ_r ?_
    refine bodyQ_ret (.tmpB rfl .nil) ?_
    exact ⟨rfl, hS.old⟩
  ·
    have hr0 := hc0
    try simp only [decide_eq_true_eq, decide_eq_false_iff_not, Bool.and_eq_true, Bool.or_eq_true, Bool.and_eq_false_iff, Bool.or_eq_false_iff, Bool.not_eq_true', Bool.not_eq_false', Int.not_lt, Int.not_le] at hc0
    have hsum := hbb (by simpa using hr0)
    refine WC.skip ?_
    refine thenQ_n (hK2 _ _ ?_)
    refine WC.seq (fun K5 hK5 => ?_)
    refine WC.region ?_
    refine WL.op rfl (opW.moveI rfl ?_)
    refine WL.op rfl (opW.call (new_ok _ wk) rfl ?_)
    rintro v w (h | ⟨h, _⟩)
    rotate_left
    · exact absurd h (by rw [hb]; decide)
    obtain ⟨_, rfl, hw⟩ := h; replace hS := hS.bel hw
    refine WL.op rfl (opW.moveV (v := .tuple #[.pointer none, .int .i64 1]) rfl ?_)
    refine WL.op rfl (opW.extract rfl rfl ?_)
    refine WL.op rfl (opW.extract rfl rfl ?_)
    refine WL.op rfl (opW.assignV (v := .pointer none) rfl ?_)
    refine WL.op rfl (opW.assignI rfl ?_)
    refine WL.nil ?_
    refine thenQ_n (hK5 _ _ ?_)
    refine WC.seq (fun K6 hK6 => ?_)
    refine WC.region ?_
    refine WL.op rfl (opW.moveI rfl ?_)
    refine WL.op rfl (opW.call (rnew_ok _ wk) rfl ?_)
    rintro v w (h | ⟨h, _⟩)
    rotate_left
    · exact absurd h (by rw [hb]; decide)
    obtain ⟨_, rfl, hw⟩ := h; replace hS := hS.bel hw
    refine WL.op rfl (opW.moveV (v := .tuple #[.pointer none, .int .i64 1]) rfl ?_)
    refine WL.op rfl (opW.extract rfl rfl ?_)
    refine WL.op rfl (opW.extract rfl rfl ?_)
    refine WL.op rfl (opW.assignV (v := .pointer none) rfl ?_)
    refine WL.op rfl (opW.assignI rfl ?_)
    refine WL.nil ?_
    refine thenQ_n (hK6 _ _ ?_)
    refine WC.seq (fun K7 hK7 => ?_)
    refine WC.seq (fun K8 hK8 => ?_)
    refine WC.region ?_
    refine WL.op rfl (opW.moveI rfl ?_)
    refine WL.op rfl (opW.moveI rfl ?_)
    refine WL.op rfl (opW.neq rfl rfl ?_)
    refine WL.nil ?_
    refine thenQ_n (hK8 _ _ ?_)
    refine WC.cond _ rfl (fun hc1 => ?_) (fun hc1 => ?_)
    ·
      have hr1 := hc1
      try simp only [decide_eq_true_eq, decide_eq_false_iff_not, Bool.and_eq_true, Bool.or_eq_true, Bool.and_eq_false_iff, Bool.or_eq_false_iff, Bool.not_eq_true', Bool.not_eq_false', Int.not_lt, Int.not_le] at hc1
      exact absurd hr1 (by decide)
    ·
      have hr1 := hc1
      try simp only [decide_eq_true_eq, decide_eq_false_iff_not, Bool.and_eq_true, Bool.or_eq_true, Bool.and_eq_false_iff, Bool.or_eq_false_iff, Bool.not_eq_true', Bool.not_eq_false', Int.not_lt, Int.not_le] at hc1
      refine WC.skip ?_
      refine thenQ_n (hK7 _ _ ?_)
      refine WC.seq (fun K9 hK9 => ?_)
      refine WC.seq (fun K10 hK10 => ?_)
      refine WC.region ?_
      refine WL.op rfl (opW.moveI rfl ?_)
      refine WL.op rfl (opW.neq rfl rfl ?_)
      refine WL.nil ?_
      refine thenQ_n (hK10 _ _ ?_)
      refine WC.cond _ rfl (fun hc2 => ?_) (fun hc2 => ?_)
      ·
        have hr2 := hc2
        try simp only [decide_eq_true_eq, decide_eq_false_iff_not, Bool.and_eq_true, Bool.or_eq_true, Bool.and_eq_false_iff, Bool.or_eq_false_iff, Bool.not_eq_true', Bool.not_eq_false', Int.not_lt, Int.not_le] at hc2
        refine WC.seq (fun K11 hK11 => ?_)
        refine WC.region ?_
        refine WL.op rfl (opW.moveV (v := .pointer none) rfl ?_)
        refine WL.op rfl (opW.eqlP (a := none) rfl rfl ?_)
        refine WL.op rfl (opW.moveB rfl ?_)
        refine WL.gT 39 rfl rfl rfl (WL.op rfl (opW.call (lives_ok _) rfl ?_))
        rintro _ w ⟨rfl, hw⟩; replace hS := hS.bel hw
        refine WL.op rfl (opW.pickT rfl rfl ?_)
        refine WL.op rfl (opW.assignB rfl ?_)
        refine WL.nil ?_
        refine thenQ_n (hK11 _ _ ?_)
        refine WC.ret ?_
        refine thenQ_r ?_
        refine bodyQ_ret (.tmpB rfl .nil) ?_
        exact ⟨rfl, hS.old⟩
      ·
        have hr2 := hc2
        try simp only [decide_eq_true_eq, decide_eq_false_iff_not, Bool.and_eq_true, Bool.or_eq_true, Bool.and_eq_false_iff, Bool.or_eq_false_iff, Bool.not_eq_true', Bool.not_eq_false', Int.not_lt, Int.not_le] at hc2
        exact absurd hr2 (by decide)

set_option maxRecDepth 20000 in
set_option maxHeartbeats 8000000 in
theorem play_good (w0 : World) (wk : Int) (v : Value) (xs : List Act) (ac : Nat → List I64) (hx : SlR w0 v xs) (hac : ∀ i (hi : i < xs.length), SlR w0 xs[i].batch.v (ac i) ∧ (ac i).length ≤ 17592186044416) (hxb : xs.length ≤ 17592186044416) (hb : inR (wk - 1) 64 = true) : Ret Try.prog 3 #[.int .i64 wk, v] w0 (fun r w' => r = .bool true ∧ Bel w0 w') := by
  refine Ret.enter (args := [.int .i64 wk, v]) Try.func3 rfl Try.ntmps3 Try.results3 rfl ?_
  have hS := St.start w0
  refine WC.seq (fun K1 hK1 => ?_)
  refine WC.region ?_
  refine WL.op rfl (opW.assignB rfl ?_)
  refine WL.nil ?_
  refine thenQ_n (hK1 _ _ ?_)
  refine WC.seq (fun K2 hK2 => ?_)
  refine WC.seq (fun K3 hK3 => ?_)
  refine WC.region ?_
  refine WL.op rfl (opW.moveV (v := v) rfl ?_)
  refine WL.op rfl (opW.call (great_ok _ v xs ac (hx.bel hS.old) (fun i hi => (hac i hi).1.bel hS.old) hxb (fun i hi => (hac i hi).2)) rfl ?_)
  rintro _ w ⟨bb, rfl, hbb, hw⟩; replace hS := hS.bel hw
  refine WL.nil ?_
  refine thenQ_n (hK3 _ _ ?_)
  refine WC.cond _ rfl (fun hc0 => ?_) (fun hc0 => ?_)
  ·
    have hr0 := hc0
    try simp only [decide_eq_true_eq, decide_eq_false_iff_not, Bool.and_eq_true, Bool.or_eq_true, Bool.and_eq_false_iff, Bool.or_eq_false_iff, Bool.not_eq_true', Bool.not_eq_false', Int.not_lt, Int.not_le] at hc0
    refine WC.seq (fun K4 hK4 => ?_)
    refine WC.region ?_
    refine WL.op rfl (opW.call (lives_ok _) rfl ?_)
    rintro _ w ⟨rfl, hw⟩; replace hS := hS.bel hw
    refine WL.op rfl (opW.assignB rfl ?_)
    refine WL.nil ?_
    refine thenQ_n (hK4 _ _ ?_)
    refine WC.ret ?_
    refine thenQ_r ?_
    refine bodyQ_ret (.tmpB rfl .nil) ?_
    exact ⟨rfl, hS.old⟩
  ·
    have hr0 := hc0
    try simp only [decide_eq_true_eq, decide_eq_false_iff_not, Bool.and_eq_true, Bool.or_eq_true, Bool.and_eq_false_iff, Bool.or_eq_false_iff, Bool.not_eq_true', Bool.not_eq_false', Int.not_lt, Int.not_le] at hc0
    have hsum := hbb (by simpa using hr0)
    refine WC.skip ?_
    refine thenQ_n (hK2 _ _ ?_)
    refine WC.seq (fun K5 hK5 => ?_)
    refine WC.region ?_
    refine WL.op rfl (opW.moveI rfl ?_)
    refine WL.op rfl (opW.call (new_ok _ wk) rfl ?_)
    rintro v w (⟨h, _⟩ | ⟨_, p, d0, rfl, hok0, hC0, hne0, hn, hw⟩)
    · exact absurd h (by rw [hb]; decide)
    replace hS := hS.newE hw hn
    refine WL.op rfl (opW.moveV (v := .tuple #[.pointer (some ⟨p, 0, none⟩), .int .i64 0]) rfl ?_)
    refine WL.op rfl (opW.extract rfl rfl ?_)
    refine WL.op rfl (opW.extract rfl rfl ?_)
    refine WL.op rfl (opW.assignV (v := .pointer (some ⟨p, 0, none⟩)) rfl ?_)
    refine WL.op rfl (opW.assignI rfl ?_)
    refine WL.nil ?_
    refine thenQ_n (hK5 _ _ ?_)
    refine WC.seq (fun K6 hK6 => ?_)
    refine WC.region ?_
    refine WL.op rfl (opW.moveI rfl ?_)
    refine WL.op rfl (opW.call (rnew_ok _ wk) rfl ?_)
    rintro v w (⟨h, _⟩ | ⟨_, p2, r0, rfl, hor0, hD0, hn2, hw⟩)
    · exact absurd h (by rw [hb]; decide)
    replace hS := hS.newE hw hn2
    refine WL.op rfl (opW.moveV (v := .tuple #[.pointer (some ⟨p2, 0, none⟩), .int .i64 0]) rfl ?_)
    refine WL.op rfl (opW.extract rfl rfl ?_)
    refine WL.op rfl (opW.extract rfl rfl ?_)
    refine WL.op rfl (opW.assignV (v := .pointer (some ⟨p2, 0, none⟩)) rfl ?_)
    refine WL.op rfl (opW.assignI rfl ?_)
    refine WL.nil ?_
    refine thenQ_n (hK6 _ _ ?_)
    refine WC.seq (fun K7 hK7 => ?_)
    refine WC.seq (fun K8 hK8 => ?_)
    refine WC.region ?_
    refine WL.op rfl (opW.moveI rfl ?_)
    refine WL.op rfl (opW.moveI rfl ?_)
    refine WL.op rfl (opW.neq rfl rfl ?_)
    refine WL.nil ?_
    refine thenQ_n (hK8 _ _ ?_)
    refine WC.cond _ rfl (fun hc1 => ?_) (fun hc1 => ?_)
    ·
      have hr1 := hc1
      try simp only [decide_eq_true_eq, decide_eq_false_iff_not, Bool.and_eq_true, Bool.or_eq_true, Bool.and_eq_false_iff, Bool.or_eq_false_iff, Bool.not_eq_true', Bool.not_eq_false', Int.not_lt, Int.not_le] at hc1
      exact absurd hr1 (by decide)
    ·
      have hr1 := hc1
      try simp only [decide_eq_true_eq, decide_eq_false_iff_not, Bool.and_eq_true, Bool.or_eq_true, Bool.and_eq_false_iff, Bool.or_eq_false_iff, Bool.not_eq_true', Bool.not_eq_false', Int.not_lt, Int.not_le] at hc1
      refine WC.skip ?_
      refine thenQ_n (hK7 _ _ ?_)
      refine WC.seq (fun K9 hK9 => ?_)
      refine WC.seq (fun K10 hK10 => ?_)
      refine WC.region ?_
      refine WL.op rfl (opW.moveI rfl ?_)
      refine WL.op rfl (opW.neq rfl rfl ?_)
      refine WL.nil ?_
      refine thenQ_n (hK10 _ _ ?_)
      refine WC.cond _ rfl (fun hc2 => ?_) (fun hc2 => ?_)
      ·
        have hr2 := hc2
        try simp only [decide_eq_true_eq, decide_eq_false_iff_not, Bool.and_eq_true, Bool.or_eq_true, Bool.and_eq_false_iff, Bool.or_eq_false_iff, Bool.not_eq_true', Bool.not_eq_false', Int.not_lt, Int.not_le] at hc2
        exact absurd hr2 (by decide)
      ·
        have hr2 := hc2
        try simp only [decide_eq_true_eq, decide_eq_false_iff_not, Bool.and_eq_true, Bool.or_eq_true, Bool.and_eq_false_iff, Bool.or_eq_false_iff, Bool.not_eq_true', Bool.not_eq_false', Int.not_lt, Int.not_le] at hc2
        refine WC.skip ?_
        refine thenQ_n (hK9 _ _ ?_)
        refine WC.seq (fun K11 hK11 => ?_)
        refine WC.seq (fun K12 hK12 => ?_)
        refine WC.region ?_
        refine WL.op rfl (opW.assignI rfl ?_)
        refine WL.nil ?_
        refine thenQ_n (hK12 _ _ ?_)
        refine WC.block ?_
        refine WC.loop (fun q f w => ∃ (i : Nat) (d : LaD) (r : RfD), Fits [(1, v), (5, .pointer (some ⟨p, 0, none⟩)), (7, .pointer (some ⟨p2, 0, none⟩)), (9, .int .i64 (i : Int))] f ∧ St w0 [laE p d, rfE p2 r] w ∧ r.C = d.C ∧ LaOk i d ∧ RfOk i r ∧ d.lv.a.isNone = false ∧ i ≤ xs.length ∧ q = xs.length - i) (xs.length) ?_ ?_
        ·
          exact ⟨0, d0, r0, ⟨rfl, rfl, rfl, rfl, trivial⟩, hS.swap, (by rw [hC0, hD0]), hok0, hor0, hne0, Nat.zero_le _, rfl⟩
        ·
          rintro q f w ⟨i, d, r, hfit, hS, hCC, hok, hor, hne, hi0, hm⟩
          refine WC.fits _ hfit (fun g => ?_)
          clear hfit
          refine WC.seq (fun K13 hK13 => ?_)
          refine WC.seq (fun K14 hK14 => ?_)
          refine WC.region ?_
          refine WL.op rfl (opW.moveI rfl ?_)
          refine WL.op rfl (opW.moveV (v := v) rfl ?_)
          refine WL.op rfl (opW.lenV rfl ((hx.bel hS.old)) ?_)
          refine WL.op rfl (opW.lss rfl rfl ?_)
          refine WL.nil ?_
          refine thenQ_n (hK14 _ _ ?_)
          refine WC.cond _ rfl (fun hc3 => ?_) (fun hc3 => ?_)
          ·
            have hr3 := hc3
            try simp only [decide_eq_true_eq, decide_eq_false_iff_not, Bool.and_eq_true, Bool.or_eq_true, Bool.and_eq_false_iff, Bool.or_eq_false_iff, Bool.not_eq_true', Bool.not_eq_false', Int.not_lt, Int.not_le] at hc3
            have hi : i < xs.length := by omega
            refine WC.skip ?_
            refine thenQ_n (hK13 _ _ ?_)
            refine WC.seq (fun K15 hK15 => ?_)
            refine WC.block ?_
            refine WC.seq (fun K16 hK16 => ?_)
            refine WC.region ?_
            refine WL.op rfl (opW.moveV (v := v) rfl ?_)
            refine WL.op rfl (opW.moveI rfl ?_)
            refine WL.op rfl (opW.idxV rfl ((hx.bel hS.old)) rfl (by omega) ?_)
            refine WL.op rfl (opW.fieldAddr rfl ((hx.bel hS.old).isP hi) ?_)
            refine WL.op rfl (opW.loadV rfl (Ld.pt1 ((hx.bel hS.old).isPt hi) 1 (Act.at_worker _)) ?_)
            refine WL.op rfl (opW.assignI rfl ?_)
            refine WL.nil ?_
            refine thenQ_n (hK16 _ _ ?_)
            refine WC.mid (fun f w => ∃ (d2 : LaD) (r2 : RfD), Fits [(1, v), (5, .pointer (some ⟨p, 0, none⟩)), (7, .pointer (some ⟨p2, 0, none⟩)), (9, .int .i64 (i : Int)), (10, .int .i64 xs[i].worker)] f ∧ St w0 [laE p d2, rfE p2 r2] w ∧ r2.C = d2.C ∧ LaOk (i + 1) d2 ∧ RfOk (i + 1) r2 ∧ d2.lv.a.isNone = false) ?_ ?_
            ·
              refine WC.seq (fun K17 hK17 => ?_)
              refine WC.region ?_
              refine WL.op rfl (opW.moveV (v := v) rfl ?_)
              refine WL.op rfl (opW.moveI rfl ?_)
              refine WL.op rfl (opW.idxV rfl ((hx.bel hS.old)) rfl (by omega) ?_)
              refine WL.op rfl (opW.fieldAddr rfl ((hx.bel hS.old).isP hi) ?_)
              refine WL.op rfl (opW.loadV rfl (Ld.pt1 ((hx.bel hS.old).isPt hi) 0 (Act.at_pop _)) ?_)
              refine WL.nil ?_
              refine thenQ_n (hK17 _ _ ?_)
              refine WC.cond _ rfl (fun hc4 => ?_) (fun hc4 => ?_)
              ·
                have hr4 := hc4
                try simp only [decide_eq_true_eq, decide_eq_false_iff_not, Bool.and_eq_true, Bool.or_eq_true, Bool.and_eq_false_iff, Bool.or_eq_false_iff, Bool.not_eq_true', Bool.not_eq_false', Int.not_lt, Int.not_le] at hc4
                refine WC.seq (fun K18 hK18 => ?_)
                refine WC.region ?_
                refine WL.op rfl (opW.moveV (v := .pointer (some ⟨p, 0, none⟩)) rfl ?_)
                refine WL.op rfl (opW.moveI rfl ?_)
                refine WL.op rfl (opW.call (popL_ok _ _ _ p d i xs[i].worker hS hok (by omega)) rfl ?_)
                rintro v w ⟨b, d1, hv, hb1, hC1, hl1, hok1, hS⟩
                subst hv
                refine WL.op rfl (opW.moveV (v := .tuple #[b.1.v, .bool (!(laneC d.C xs[i].worker).isEmpty)]) rfl ?_)
                refine WL.op rfl (opW.extract rfl rfl ?_)
                refine WL.op rfl (opW.extract rfl rfl ?_)
                refine WL.op rfl (opW.assignV (v := b.1.v) rfl ?_)
                refine WL.op rfl (opW.assignB rfl ?_)
                refine WL.nil ?_
                refine thenQ_n (hK18 _ _ ?_)
                refine WC.seq (fun K19 hK19 => ?_)
                refine WC.region ?_
                refine WL.op rfl (opW.moveV (v := .pointer (some ⟨p2, 0, none⟩)) rfl ?_)
                refine WL.op rfl (opW.moveI rfl ?_)
                refine WL.op rfl (opW.call (rpop_ok _ _ _ p2 r i xs[i].worker (hS.pick (e := rfE p2 r) (by first | exact .h0 | exact .h1 | exact .h2 | exact .h3 | exact .h4 | exact .h5 | exact .h6 | exact .h7 | exact .h8 | exact .h9 | exact .h10 | exact .h11 | exact .h12 | exact .h13 | exact .h14)) hor (by omega)) rfl ?_)
                rintro v w ⟨b2, r1, hv, hb2, hD1, hor1, hS⟩
                rw [hCC] at hv hb2 hD1
                subst hv
                refine WL.op rfl (opW.moveV (v := .tuple #[b2.1.v, .bool (!(laneC d.C xs[i].worker).isEmpty)]) rfl ?_)
                refine WL.op rfl (opW.extract rfl rfl ?_)
                refine WL.op rfl (opW.extract rfl rfl ?_)
                refine WL.op rfl (opW.assignV (v := b2.1.v) rfl ?_)
                refine WL.op rfl (opW.assignB rfl ?_)
                refine WL.nil ?_
                refine thenQ_n (hK19 _ _ ?_)
                refine WC.seq (fun K20 hK20 => ?_)
                refine WC.seq (fun K21 hK21 => ?_)
                refine WC.region ?_
                refine WL.op rfl (opW.moveB rfl ?_)
                refine WL.op rfl (opW.moveB rfl ?_)
                refine WL.op rfl (opW.boolF (by simp) (opW.neqB rfl rfl ⟨rfl, rfl⟩) ?_)
                refine WL.op rfl (opW.moveB rfl ?_)
                refine WL.gT 73 rfl rfl rfl (WL.op rfl (opW.moveV (v := b.1.v) rfl ?_))
                refine WL.gT 73 rfl rfl rfl (WL.op rfl (opW.moveV (v := b2.1.v) rfl ?_))
                refine WL.gT 73 rfl rfl rfl (WL.op rfl (opW.call (same_ok _ _ _ b.2 b2.2 (hS.sl (v := b.1.v) (xs := b.2) (by first | exact .h0 | exact .h1 | exact .h2 | exact .h3 | exact .h4 | exact .h5 | exact .h6 | exact .h7 | exact .h8 | exact .h9 | exact .h10 | exact .h11 | exact .h12 | exact .h13 | exact .h14)) (hS.sl (v := b2.1.v) (xs := b2.2) (by first | exact .h0 | exact .h1 | exact .h2 | exact .h3 | exact .h4 | exact .h5 | exact .h6 | exact .h7 | exact .h8 | exact .h9 | exact .h10 | exact .h11 | exact .h12 | exact .h13 | exact .h14))) rfl ?_))
                rintro v w ⟨hv, hw⟩; replace hS := hS.bel hw
                replace hv : v = .bool true := by rw [hv, hb1, hb2, decide_eq_true rfl]
                subst hv
                refine WL.gT 73 rfl rfl rfl (WL.op rfl (opW.not rfl ?_))
                refine WL.op rfl (opW.pickT rfl rfl ?_)
                refine WL.nil ?_
                refine thenQ_n (hK21 _ _ ?_)
                refine WC.cond _ rfl (fun hc5 => ?_) (fun hc5 => ?_)
                ·
                  have hr5 := hc5
                  try simp only [decide_eq_true_eq, decide_eq_false_iff_not, Bool.and_eq_true, Bool.or_eq_true, Bool.and_eq_false_iff, Bool.or_eq_false_iff, Bool.not_eq_true', Bool.not_eq_false', Int.not_lt, Int.not_le] at hc5
                  exact absurd hr5 (by decide)
                ·
                  have hr5 := hc5
                  try simp only [decide_eq_true_eq, decide_eq_false_iff_not, Bool.and_eq_true, Bool.or_eq_true, Bool.and_eq_false_iff, Bool.or_eq_false_iff, Bool.not_eq_true', Bool.not_eq_false', Int.not_lt, Int.not_le] at hc5
                  refine WC.skip ?_
                  refine thenQ_n (hK20 _ _ ?_)
                  refine WC.region ?_
                  refine WL.op rfl (opW.moveV (v := b.1.v) rfl ?_)
                  refine WL.op rfl (opW.call (spoil_ok _ _ _ b.1.v b.2 (hS.pick (e := ownE b.1.v 3 b.2) (by first | exact .h0 | exact .h1 | exact .h2 | exact .h3 | exact .h4 | exact .h5 | exact .h6 | exact .h7 | exact .h8 | exact .h9 | exact .h10 | exact .h11 | exact .h12 | exact .h13 | exact .h14))) rfl ?_)
                  rintro v w ⟨ys, hy, hS⟩
                  have hfin : ∃ (d2 : LaD) (r2 : RfD), St w0 [laE p d2, rfE p2 r2] _ ∧ r2.C = d2.C ∧ LaOk (i + 1) d2 ∧ RfOk (i + 1) r2 ∧ d2.lv.a.isNone = false := ⟨d1, r1, hS.drop1.drop1.swap, (by rw [hD1, hC1]), hok1.up (Nat.le_succ i), hor1, (by rw [hl1]; exact hne)⟩
                  refine WL.nil ?_
                  refine thenQ_n ?_
                  obtain ⟨d2, r2, g1, g2, g3, g4, g5⟩ := hfin
                  exact ⟨d2, r2, ⟨rfl, rfl, rfl, rfl, rfl, trivial⟩, g1, g2, g3, g4, g5⟩
              ·
                have hr4 := hc4
                try simp only [decide_eq_true_eq, decide_eq_false_iff_not, Bool.and_eq_true, Bool.or_eq_true, Bool.and_eq_false_iff, Bool.or_eq_false_iff, Bool.not_eq_true', Bool.not_eq_false', Int.not_lt, Int.not_le] at hc4
                refine WC.seq (fun K22 hK22 => ?_)
                refine WC.region ?_
                refine WL.op rfl (opW.moveV (v := v) rfl ?_)
                refine WL.op rfl (opW.moveI rfl ?_)
                refine WL.op rfl (opW.idxV rfl ((hx.bel hS.old)) rfl (by omega) ?_)
                refine WL.op rfl (opW.fieldAddr rfl ((hx.bel hS.old).isP hi) ?_)
                refine WL.op rfl (opW.loadV rfl (Ld.pt1 ((hx.bel hS.old).isPt hi) 2 (Act.at_batch _)) ?_)
                refine WL.op rfl (opW.appendNil (α := I64) rfl hS rfl ((hac i hi).1.bel hS.old) (by have := (hac i hi).2; omega) (by have := (hac i hi).2; simp only [maxLen]; omega) ?_)
                intro v86 w hw hS
                obtain ⟨s86, rfl⟩ := (hS.sl (v := v86) (xs := ac i) (by first | exact .h0 | exact .h1 | exact .h2 | exact .h3 | exact .h4 | exact .h5 | exact .h6 | exact .h7 | exact .h8 | exact .h9 | exact .h10 | exact .h11 | exact .h12 | exact .h13 | exact .h14)).asV
                refine WL.op rfl (opW.assignV (v := s86.v) rfl ?_)
                refine WL.nil ?_
                refine thenQ_n (hK22 _ _ ?_)
                refine WC.seq (fun K23 hK23 => ?_)
                refine WC.seq (fun K24 hK24 => ?_)
                refine WC.drawI 23 (.look 0 (.look 1 (.look 2 (.look 4 (.look 5 (.look 6 (.look 7 (.look 8 (.look 9 (.look 10 (.one 3 (.one 11 (.look 12 (.look 13 (.look 14 (.look 15 (.look 16 (.look 17 (.look 18 (.look 19 (.one 20 (.look 21 (.look 22 .nil))))))))))))))))))))))) (by kernel_rfl) (fun _ _ _ h => h) (fun w1 hw1 => ?_)
                replace hS := hS.bel hw1
                have hS1 := hS
                refine ⟨fun w => Bel w0 w, hS.old, ?_⟩
                refine ML.look rfl rfl rfl (fun w hw => (by have hS : St w0 [] w := ⟨hw, List.Pairwise.nil, fun _ h => nomatch h⟩; exact opW.moveV (v := .pointer (some ⟨p, 0, none⟩)) rfl ⟨rfl, rfl⟩)) ?_
                refine ML.look rfl rfl rfl (fun w hw => (by have hS : St w0 [] w := ⟨hw, List.Pairwise.nil, fun _ h => nomatch h⟩; exact opW.moveI rfl ⟨rfl, rfl⟩)) ?_
                refine ML.look rfl rfl rfl (fun w hw => (by have hS : St w0 [] w := ⟨hw, List.Pairwise.nil, fun _ h => nomatch h⟩; exact opW.moveV (v := s86.v) rfl ⟨rfl, rfl⟩)) ?_
                refine ML.look rfl rfl rfl (fun w hw => (by have hS : St w0 [] w := ⟨hw, List.Pairwise.nil, fun _ h => nomatch h⟩; exact opW.moveV (v := .pointer (some ⟨p2, 0, none⟩)) rfl ⟨rfl, rfl⟩)) ?_
                refine ML.look rfl rfl rfl (fun w hw => (by have hS : St w0 [] w := ⟨hw, List.Pairwise.nil, fun _ h => nomatch h⟩; exact opW.moveI rfl ⟨rfl, rfl⟩)) ?_
                refine ML.look rfl rfl rfl (fun w hw => (by have hS : St w0 [] w := ⟨hw, List.Pairwise.nil, fun _ h => nomatch h⟩; exact opW.moveV (v := v) rfl ⟨rfl, rfl⟩)) ?_
                refine ML.look rfl rfl rfl (fun w hw => (by have hS : St w0 [] w := ⟨hw, List.Pairwise.nil, fun _ h => nomatch h⟩; exact opW.moveI rfl ⟨rfl, rfl⟩)) ?_
                refine ML.look rfl rfl rfl (fun w hw => (by have hS : St w0 [] w := ⟨hw, List.Pairwise.nil, fun _ h => nomatch h⟩; exact opW.idxV rfl ((hx.bel hS.old)) rfl (by omega) ⟨rfl, rfl⟩)) ?_
                refine ML.look rfl rfl rfl (fun w hw => (by have hS : St w0 [] w := ⟨hw, List.Pairwise.nil, fun _ h => nomatch h⟩; exact opW.fieldAddr rfl ((hx.bel hS.old).isP hi) ⟨rfl, rfl⟩)) ?_
                refine ML.look rfl rfl rfl (fun w hw => (by have hS : St w0 [] w := ⟨hw, List.Pairwise.nil, fun _ h => nomatch h⟩; exact opW.loadV rfl (Ld.pt1 ((hx.bel hS.old).isPt hi) 2 (Act.at_batch _)) ⟨rfl, rfl⟩)) ?_
                refine ML.one rfl rfl rfl (opW.call (pushL_ok _ _ _ p d i xs[i].worker _ (ac i) (hS.pick (e := laE p d) (by first | exact .h0 | exact .h1 | exact .h2 | exact .h3 | exact .h4 | exact .h5 | exact .h6 | exact .h7 | exact .h8 | exact .h9 | exact .h10 | exact .h11 | exact .h12 | exact .h13 | exact .h14)) hok (by omega) hne (fun w h => h.sl (v := s86.v) (xs := ac i) (by first | exact .h0 | exact .h1 | exact .h2 | exact .h3 | exact .h4 | exact .h5 | exact .h6 | exact .h7 | exact .h8 | exact .h9 | exact .h10 | exact .h11 | exact .h12 | exact .h13 | exact .h14))) rfl ?_)
                rintro v w ⟨d1, hv, hC1, hl1, hok1, hS⟩
                subst hv
                refine ⟨hS.old, ?_⟩
                refine ML.one rfl rfl rfl (opW.call (rpush_ok _ _ _ p2 r i xs[i].worker _ (ac i) (hS.pick (e := rfE p2 r) (by first | exact .h0 | exact .h1 | exact .h2 | exact .h3 | exact .h4 | exact .h5 | exact .h6 | exact .h7 | exact .h8 | exact .h9 | exact .h10 | exact .h11 | exact .h12 | exact .h13 | exact .h14)) hor (by omega) (fun w h => (hac i hi).1.bel h.old)) rfl ?_)
                rintro v w ⟨r1, hv, hD1, hor1, hS⟩
                rw [hCC] at hv hD1
                subst hv
                refine ⟨hS.old, ?_⟩
                refine ML.look rfl rfl rfl (fun w hw => (by have hS : St w0 [] w := ⟨hw, List.Pairwise.nil, fun _ h => nomatch h⟩; exact opW.boolF (by simp) (opW.neq rfl rfl ⟨rfl, rfl⟩) ⟨rfl, rfl⟩)) ?_
                refine ML.look rfl rfl rfl (fun w hw => (by have hS : St w0 [] w := ⟨hw, List.Pairwise.nil, fun _ h => nomatch h⟩; exact opW.moveB rfl ⟨rfl, rfl⟩)) ?_
                refine ML.lookT 100 rfl rfl rfl rfl rfl rfl (fun w hw => (by have hS : St w0 [] w := ⟨hw, List.Pairwise.nil, fun _ h => nomatch h⟩; exact opW.moveV (v := s86.v) rfl ⟨rfl, rfl⟩)) ?_
                refine ML.lookT 100 rfl rfl rfl rfl rfl rfl (fun w hw => (by have hS : St w0 [] w := ⟨hw, List.Pairwise.nil, fun _ h => nomatch h⟩; exact opW.moveV (v := v) rfl ⟨rfl, rfl⟩)) ?_
                refine ML.lookT 100 rfl rfl rfl rfl rfl rfl (fun w hw => (by have hS : St w0 [] w := ⟨hw, List.Pairwise.nil, fun _ h => nomatch h⟩; exact opW.moveI rfl ⟨rfl, rfl⟩)) ?_
                refine ML.lookT 100 rfl rfl rfl rfl rfl rfl (fun w hw => (by have hS : St w0 [] w := ⟨hw, List.Pairwise.nil, fun _ h => nomatch h⟩; exact opW.idxV rfl ((hx.bel hS.old)) rfl (by omega) ⟨rfl, rfl⟩)) ?_
                refine ML.lookT 100 rfl rfl rfl rfl rfl rfl (fun w hw => (by have hS : St w0 [] w := ⟨hw, List.Pairwise.nil, fun _ h => nomatch h⟩; exact opW.fieldAddr rfl ((hx.bel hS.old).isP hi) ⟨rfl, rfl⟩)) ?_
                refine ML.lookT 100 rfl rfl rfl rfl rfl rfl (fun w hw => (by have hS : St w0 [] w := ⟨hw, List.Pairwise.nil, fun _ h => nomatch h⟩; exact opW.loadV rfl (Ld.pt1 ((hx.bel hS.old).isPt hi) 2 (Act.at_batch _)) ⟨rfl, rfl⟩)) ?_
                refine ML.oneT 100 rfl rfl rfl rfl rfl rfl (opW.call (same_ok _ _ _ (ac i) (ac i) (hS.sl (v := s86.v) (xs := ac i) (by first | exact .h0 | exact .h1 | exact .h2 | exact .h3 | exact .h4 | exact .h5 | exact .h6 | exact .h7 | exact .h8 | exact .h9 | exact .h10 | exact .h11 | exact .h12 | exact .h13 | exact .h14)) ((hac i hi).1.bel hS.old)) rfl ?_)
                rintro v w ⟨hv, hw⟩; replace hS := hS.bel hw
                replace hv : v = .bool true := by rw [hv, decide_eq_true rfl]
                subst hv
                refine ⟨hS.old, ?_⟩
                refine ML.lookT 100 rfl rfl rfl rfl rfl rfl (fun w hw => (by have hS : St w0 [] w := ⟨hw, List.Pairwise.nil, fun _ h => nomatch h⟩; exact opW.not rfl ⟨rfl, rfl⟩)) ?_
                refine ML.look rfl rfl rfl (fun w hw => (by have hS : St w0 [] w := ⟨hw, List.Pairwise.nil, fun _ h => nomatch h⟩; exact opW.pickT rfl rfl ⟨rfl, rfl⟩)) ?_
                refine ML.nil ?_
                refine thenQ_n (hK24 _ _ ?_)
                refine WC.cond _ rfl (fun hc6 => ?_) (fun hc6 => ?_)
                ·
                  have hr6 := hc6
                  try simp only [decide_eq_true_eq, decide_eq_false_iff_not, Bool.and_eq_true, Bool.or_eq_true, Bool.and_eq_false_iff, Bool.or_eq_false_iff, Bool.not_eq_true', Bool.not_eq_false', Int.not_lt, Int.not_le] at hc6
                  exact absurd hr6 (by decide)
                ·
                  have hr6 := hc6
                  try simp only [decide_eq_true_eq, decide_eq_false_iff_not, Bool.and_eq_true, Bool.or_eq_true, Bool.and_eq_false_iff, Bool.or_eq_false_iff, Bool.not_eq_true', Bool.not_eq_false', Int.not_lt, Int.not_le] at hc6
                  refine WC.skip ?_
                  refine thenQ_n (hK23 _ _ ?_)
                  refine WC.region ?_
                  refine WL.op rfl (opW.moveV (v := s86.v) rfl ?_)
                  refine WL.op rfl (opW.call (spoil_ok _ _ _ s86.v (ac i) (hS.pick (e := ownE s86.v 3 (ac i)) (by first | exact .h0 | exact .h1 | exact .h2 | exact .h3 | exact .h4 | exact .h5 | exact .h6 | exact .h7 | exact .h8 | exact .h9 | exact .h10 | exact .h11 | exact .h12 | exact .h13 | exact .h14))) rfl ?_)
                  rintro v w ⟨ys, hy, hS⟩
                  have hfin : ∃ (d2 : LaD) (r2 : RfD), St w0 [laE p d2, rfE p2 r2] _ ∧ r2.C = d2.C ∧ LaOk (i + 1) d2 ∧ RfOk (i + 1) r2 ∧ d2.lv.a.isNone = false := ⟨d1, r1, hS.drop1.swap, (by rw [hD1, hC1]), hok1, hor1, (by rw [hl1]; exact hne)⟩
                  refine WL.nil ?_
                  refine thenQ_n ?_
                  obtain ⟨d2, r2, g1, g2, g3, g4, g5⟩ := hfin
                  exact ⟨d2, r2, ⟨rfl, rfl, rfl, rfl, rfl, trivial⟩, g1, g2, g3, g4, g5⟩
            ·
              rintro f w ⟨d2, r2, hfit, hS, hCC2, hok2, hor2, hne2⟩
              refine WC.fits _ hfit (fun g => ?_)
              clear hfit
              refine WC.seq (fun K25 hK25 => ?_)
              refine WC.region ?_
              refine WL.op rfl (opW.moveV (v := .pointer (some ⟨p, 0, none⟩)) rfl ?_)
              refine WL.op rfl (opW.call (all_ok _ p d2 (i + 1) (hS.laAt (by first | exact .h0 | exact .h1 | exact .h2 | exact .h3 | exact .h4 | exact .h5 | exact .h6 | exact .h7 | exact .h8 | exact .h9 | exact .h10 | exact .h11 | exact .h12 | exact .h13 | exact .h14)) hok2 (by omega)) rfl ?_)
              rintro _ w ⟨o, NL, rfl, hNL, hn113, hw⟩; replace hS := hS.newE hw hn113
              refine WL.op rfl (opW.assignV (v := o.v) rfl ?_)
              refine WL.nil ?_
              refine thenQ_n (hK25 _ _ ?_)
              refine WC.seq (fun K26 hK26 => ?_)
              refine WC.seq (fun K27 hK27 => ?_)
              refine WC.region ?_
              refine WL.op rfl (opW.moveV (v := .pointer (some ⟨p, 0, none⟩)) rfl ?_)
              refine WL.op rfl (opW.moveI rfl ?_)
              refine WL.op rfl (opW.call (count_ok _ p d2 xs[i].worker (hS.laAt (by first | exact .h0 | exact .h1 | exact .h2 | exact .h3 | exact .h4 | exact .h5 | exact .h6 | exact .h7 | exact .h8 | exact .h9 | exact .h10 | exact .h11 | exact .h12 | exact .h13 | exact .h14))) rfl ?_)
              rintro _ w ⟨rfl, hw⟩; replace hS := hS.bel hw
              refine WL.op rfl (opW.moveV (v := .pointer (some ⟨p2, 0, none⟩)) rfl ?_)
              refine WL.op rfl (opW.moveI rfl ?_)
              refine WL.op rfl (opW.call (rcount_ok _ p2 r2 (i + 1) xs[i].worker (hS.rfAt (by first | exact .h0 | exact .h1 | exact .h2 | exact .h3 | exact .h4 | exact .h5 | exact .h6 | exact .h7 | exact .h8 | exact .h9 | exact .h10 | exact .h11 | exact .h12 | exact .h13 | exact .h14) hor2) hor2 (by omega)) rfl ?_)
              rintro _ w ⟨rfl, hw⟩; replace hS := hS.bel hw
              rw [hCC2]
              refine WL.op rfl (opW.boolF (by simp) (opW.neq rfl rfl ⟨rfl, rfl⟩) ?_)
              refine WL.op rfl (opW.moveB rfl ?_)
              refine WL.gT 121 rfl rfl rfl (WL.op rfl (opW.moveV (v := .pointer (some ⟨p, 0, none⟩)) rfl ?_))
              refine WL.gT 121 rfl rfl rfl (WL.op rfl (opW.call (count_ok _ p d2 0 (hS.laAt (by first | exact .h0 | exact .h1 | exact .h2 | exact .h3 | exact .h4 | exact .h5 | exact .h6 | exact .h7 | exact .h8 | exact .h9 | exact .h10 | exact .h11 | exact .h12 | exact .h13 | exact .h14))) rfl ?_))
              rintro _ w ⟨rfl, hw⟩; replace hS := hS.bel hw
              refine WL.gT 121 rfl rfl rfl (WL.op rfl (opW.moveV (v := .pointer (some ⟨p2, 0, none⟩)) rfl ?_))
              refine WL.gT 121 rfl rfl rfl (WL.op rfl (opW.call (rcount_ok _ p2 r2 (i + 1) 0 (hS.rfAt (by first | exact .h0 | exact .h1 | exact .h2 | exact .h3 | exact .h4 | exact .h5 | exact .h6 | exact .h7 | exact .h8 | exact .h9 | exact .h10 | exact .h11 | exact .h12 | exact .h13 | exact .h14) hor2) hor2 (by omega)) rfl ?_))
              rintro _ w ⟨rfl, hw⟩; replace hS := hS.bel hw
              rw [hCC2]
              refine WL.gT 121 rfl rfl rfl (WL.op rfl (opW.boolF (by simp) (opW.neq rfl rfl ⟨rfl, rfl⟩) ?_))
              refine WL.op rfl (opW.pickT rfl rfl ?_)
              refine WL.op rfl (opW.moveB rfl ?_)
              refine WL.gT 128 rfl rfl rfl (WL.op rfl (opW.moveV (v := o.v) rfl ?_))
              refine WL.gT 128 rfl rfl rfl (WL.op rfl (opW.moveV (v := .pointer (some ⟨p2, 0, none⟩)) rfl ?_))
              refine WL.gT 128 rfl rfl rfl (WL.op rfl (opW.nilCheckB rfl ?_))
              refine WL.gT 128 rfl rfl rfl (WL.op rfl (opW.fieldAddrB rfl ?_))
              refine WL.gT 128 rfl rfl rfl (WL.op rfl (opW.loadV rfl ((hS.rfAt (by first | exact .h0 | exact .h1 | exact .h2 | exact .h3 | exact .h4 | exact .h5 | exact .h6 | exact .h7 | exact .h8 | exact .h9 | exact .h10 | exact .h11 | exact .h12 | exact .h13 | exact .h14) hor2).b.at1 (RLa.at_l _)) ?_))
              refine WL.gT 128 rfl rfl rfl (WL.op rfl (opW.call (alike_ok _ _ _ (nlC NL) r2.C (hS.nestE (by first | exact .h0 | exact .h1 | exact .h2 | exact .h3 | exact .h4 | exact .h5 | exact .h6 | exact .h7 | exact .h8 | exact .h9 | exact .h10 | exact .h11 | exact .h12 | exact .h13 | exact .h14)) (hS.rfAt (by first | exact .h0 | exact .h1 | exact .h2 | exact .h3 | exact .h4 | exact .h5 | exact .h6 | exact .h7 | exact .h8 | exact .h9 | exact .h10 | exact .h11 | exact .h12 | exact .h13 | exact .h14) hor2).nest) rfl ?_))
              rintro v w ⟨hv, hw⟩; replace hS := hS.bel hw
              replace hv : v = .bool true := by rw [hv, hNL, hCC2, decide_eq_true rfl]
              subst hv
              refine WL.gT 128 rfl rfl rfl (WL.op rfl (opW.not rfl ?_))
              refine WL.op rfl (opW.pickT rfl rfl ?_)
              refine WL.nil ?_
              refine thenQ_n (hK27 _ _ ?_)
              refine WC.cond _ rfl (fun hc7 => ?_) (fun hc7 => ?_)
              ·
                have hr7 := hc7
                try simp only [decide_eq_true_eq, decide_eq_false_iff_not, Bool.and_eq_true, Bool.or_eq_true, Bool.and_eq_false_iff, Bool.or_eq_false_iff, Bool.not_eq_true', Bool.not_eq_false', Int.not_lt, Int.not_le] at hc7
                exact absurd hr7 (by decide)
              ·
                have hr7 := hc7
                try simp only [decide_eq_true_eq, decide_eq_false_iff_not, Bool.and_eq_true, Bool.or_eq_true, Bool.and_eq_false_iff, Bool.or_eq_false_iff, Bool.not_eq_true', Bool.not_eq_false', Int.not_lt, Int.not_le] at hc7
                refine WC.skip ?_
                refine thenQ_n (hK26 _ _ ?_)
                refine WC.seq (fun K28 hK28 => ?_)
                refine WC.region ?_
                refine WL.op rfl (opW.assignI rfl ?_)
                have hnl : NL.length = d2.D.length := by have h := congrArg List.length hNL; simpa [nlC, LaD.C] using h
                have hn64 := hok2.n
                replace hS := St.opened hS
                refine WL.nil ?_
                refine thenQ_n (hK28 _ _ ?_)
                refine WC.block ?_
                refine WC.loop (fun q2 f w => ∃ (k : Nat) (NL2 : List Nl), Fits [(1, v), (5, .pointer (some ⟨p, 0, none⟩)), (7, .pointer (some ⟨p2, 0, none⟩)), (9, .int .i64 (i : Int)), (16, o.v), (17, .int .i64 (k : Int))] f ∧ St w0 (ownE o.v 46 (NL2.map Prod.fst) :: (NL2.flatMap nlE ++ [laE p d2, rfE p2 r2])) w ∧ NL2.length = NL.length ∧ k ≤ NL.length ∧ q2 = NL.length - k) (NL.length) ?_ ?_
                ·
                  exact ⟨0, NL, ⟨rfl, rfl, rfl, rfl, rfl, rfl, trivial⟩, hS, rfl, Nat.zero_le _, rfl⟩
                ·
                  rintro q2 f w ⟨k, NL2, hfit, hS, hl2, hk0, hm2⟩
                  refine WC.fits _ hfit (fun g => ?_)
                  clear hfit
                  refine WC.seq (fun K29 hK29 => ?_)
                  refine WC.seq (fun K30 hK30 => ?_)
                  refine WC.region ?_
                  refine WL.op rfl (opW.moveI rfl ?_)
                  refine WL.op rfl (opW.moveV (v := o.v) rfl ?_)
                  refine WL.op rfl (opW.lenV rfl ((hS.sl (v := o.v) (xs := (NL2.map Prod.fst)) (by first | exact .h0 | exact .h1 | exact .h2 | exact .h3 | exact .h4 | exact .h5 | exact .h6 | exact .h7 | exact .h8 | exact .h9 | exact .h10 | exact .h11 | exact .h12 | exact .h13 | exact .h14))) ?_)
                  refine WL.op rfl (opW.lss rfl rfl ?_)
                  refine WL.nil ?_
                  refine thenQ_n (hK30 _ _ ?_)
                  refine WC.cond _ rfl (fun hc8 => ?_) (fun hc8 => ?_)
                  ·
                    have hr8 := hc8
                    try simp only [decide_eq_true_eq, decide_eq_false_iff_not, Bool.and_eq_true, Bool.or_eq_true, Bool.and_eq_false_iff, Bool.or_eq_false_iff, Bool.not_eq_true', Bool.not_eq_false', Int.not_lt, Int.not_le] at hc8
                    rw [List.length_map] at hr8
                    have hk : k < NL2.length := by simp at hr8; omega
                    have hkm : k < (NL2.map Prod.fst).length := by rw [List.length_map]; exact hk
                    obtain ⟨⟨s, B⟩, hsB⟩ : ∃ x, NL2[k] = x := ⟨_, rfl⟩
                    have hgo : (NL2.map Prod.fst)[k] = s := by rw [List.getElem_map, hsB]
                    replace hS : St w0 (ownE o.v 46 (NL2.map Prod.fst) :: (nlE NL2[k] ++ ((NL2.take k ++ NL2.drop (k + 1)).flatMap nlE ++ [laE p d2, rfE p2 r2]))) w := St.nthOut nlE [_] hk hS
                    rw [hsB] at hS
                    have hBl := (hS.sl (v := s.v) (xs := B.map Prod.fst) (by first | exact .h0 | exact .h1 | exact .h2 | exact .h3 | exact .h4 | exact .h5 | exact .h6 | exact .h7 | exact .h8 | exact .h9 | exact .h10 | exact .h11 | exact .h12 | exact .h13 | exact .h14)).le
                    simp only [maxLen, List.length_map] at hBl
                    refine WC.skip ?_
                    refine thenQ_n (hK29 _ _ ?_)
                    refine WC.seq (fun K31 hK31 => ?_)
                    refine WC.block ?_
                    refine WC.seq (fun K32 hK32 => ?_)
                    refine WC.region ?_
                    refine WL.op rfl (opW.assignI rfl ?_)
                    refine WL.nil ?_
                    refine thenQ_n (hK32 _ _ ?_)
                    refine WC.block ?_
                    refine WC.loop (fun q3 f w => ∃ (m : Nat) (bs : List Bt), Fits [(1, v), (5, .pointer (some ⟨p, 0, none⟩)), (7, .pointer (some ⟨p2, 0, none⟩)), (9, .int .i64 (i : Int)), (16, o.v), (17, .int .i64 (k : Int)), (18, .int .i64 (m : Int))] f ∧ St w0 (ownE o.v 46 (NL2.map Prod.fst) :: ownE s.v 32 (bs.map Prod.fst) :: (bE bs ++ ((NL2.take k ++ NL2.drop (k + 1)).flatMap nlE ++ [laE p d2, rfE p2 r2]))) w ∧ bs.length = B.length ∧ m ≤ B.length ∧ q3 = B.length - m) (B.length) ?_ ?_
                    ·
                      exact ⟨0, B, ⟨rfl, rfl, rfl, rfl, rfl, rfl, rfl, trivial⟩, hS, rfl, Nat.zero_le _, rfl⟩
                    ·
                      rintro q3 f w ⟨m, bs, hfit, hS, hlb, hm0, hm3⟩
                      refine WC.fits _ hfit (fun g => ?_)
                      clear hfit
                      refine WC.seq (fun K33 hK33 => ?_)
                      refine WC.seq (fun K34 hK34 => ?_)
                      refine WC.region ?_
                      refine WL.op rfl (opW.moveI rfl ?_)
                      refine WL.op rfl (opW.moveV (v := o.v) rfl ?_)
                      refine WL.op rfl (opW.moveI rfl ?_)
                      refine WL.op rfl (opW.idxV rfl ((hS.sl (v := o.v) (xs := (NL2.map Prod.fst)) (by first | exact .h0 | exact .h1 | exact .h2 | exact .h3 | exact .h4 | exact .h5 | exact .h6 | exact .h7 | exact .h8 | exact .h9 | exact .h10 | exact .h11 | exact .h12 | exact .h13 | exact .h14))) rfl (by omega) ?_)
                      refine WL.op rfl (opW.loadV rfl ((show Ld _ _ _ _ s.v from hgo ▸ ((hS.sl (v := o.v) (xs := (NL2.map Prod.fst)) (by first | exact .h0 | exact .h1 | exact .h2 | exact .h3 | exact .h4 | exact .h5 | exact .h6 | exact .h7 | exact .h8 | exact .h9 | exact .h10 | exact .h11 | exact .h12 | exact .h13 | exact .h14)).isPt hkm).ld rfl)) ?_)
                      refine WL.op rfl (opW.lenV rfl ((hS.sl (v := s.v) (xs := (bs.map Prod.fst)) (by first | exact .h0 | exact .h1 | exact .h2 | exact .h3 | exact .h4 | exact .h5 | exact .h6 | exact .h7 | exact .h8 | exact .h9 | exact .h10 | exact .h11 | exact .h12 | exact .h13 | exact .h14))) ?_)
                      refine WL.op rfl (opW.lss rfl rfl ?_)
                      refine WL.nil ?_
                      refine thenQ_n (hK34 _ _ ?_)
                      refine WC.cond _ rfl (fun hc9 => ?_) (fun hc9 => ?_)
                      ·
                        have hr9 := hc9
                        try simp only [decide_eq_true_eq, decide_eq_false_iff_not, Bool.and_eq_true, Bool.or_eq_true, Bool.and_eq_false_iff, Bool.or_eq_false_iff, Bool.not_eq_true', Bool.not_eq_false', Int.not_lt, Int.not_le] at hc9
                        rw [List.length_map] at hr9
                        have hmb : m < bs.length := by simp at hr9; omega
                        have hmm : m < (bs.map Prod.fst).length := by rw [List.length_map]; exact hmb
                        have hgb : (bs.map Prod.fst)[m] = (bs[m]).1 := List.getElem_map ..
                        refine WC.skip ?_
                        refine thenQ_n (hK33 _ _ ?_)
                        refine WC.seq (fun K35 hK35 => ?_)
                        refine WC.block ?_
                        refine WC.seq (fun K36 hK36 => ?_)
                        refine WC.region ?_
                        replace hS := St.batOut [_, _] hmb hS
                        refine WL.op rfl (opW.moveV (v := o.v) rfl ?_)
                        refine WL.op rfl (opW.moveI rfl ?_)
                        refine WL.op rfl (opW.idxV rfl ((hS.sl (v := o.v) (xs := (NL2.map Prod.fst)) (by first | exact .h0 | exact .h1 | exact .h2 | exact .h3 | exact .h4 | exact .h5 | exact .h6 | exact .h7 | exact .h8 | exact .h9 | exact .h10 | exact .h11 | exact .h12 | exact .h13 | exact .h14))) rfl (by omega) ?_)
                        refine WL.op rfl (opW.loadV rfl ((show Ld _ _ _ _ s.v from hgo ▸ ((hS.sl (v := o.v) (xs := (NL2.map Prod.fst)) (by first | exact .h0 | exact .h1 | exact .h2 | exact .h3 | exact .h4 | exact .h5 | exact .h6 | exact .h7 | exact .h8 | exact .h9 | exact .h10 | exact .h11 | exact .h12 | exact .h13 | exact .h14)).isPt hkm).ld rfl)) ?_)
                        refine WL.op rfl (opW.moveI rfl ?_)
                        refine WL.op rfl (opW.idxV rfl ((hS.sl (v := s.v) (xs := (bs.map Prod.fst)) (by first | exact .h0 | exact .h1 | exact .h2 | exact .h3 | exact .h4 | exact .h5 | exact .h6 | exact .h7 | exact .h8 | exact .h9 | exact .h10 | exact .h11 | exact .h12 | exact .h13 | exact .h14))) rfl (by omega) ?_)
                        refine WL.op rfl (opW.loadV rfl ((show Ld _ _ _ _ ((bs[m]).1.v) from hgb ▸ ((hS.sl (v := s.v) (xs := (bs.map Prod.fst)) (by first | exact .h0 | exact .h1 | exact .h2 | exact .h3 | exact .h4 | exact .h5 | exact .h6 | exact .h7 | exact .h8 | exact .h9 | exact .h10 | exact .h11 | exact .h12 | exact .h13 | exact .h14)).isPt hmm).ld rfl)) ?_)
                        refine WL.op rfl (opW.call (spoil_ok _ _ _ (bs[m]).1.v (bs[m]).2 hS) rfl ?_)
                        rintro v w ⟨ys, hy, hS⟩
                        replace hS := hS.drop1
                        refine WL.nil ?_
                        refine thenQ_n (hK36 _ _ ?_)
                        refine WC.region ?_
                        refine WL.op rfl (opW.moveV (v := o.v) rfl ?_)
                        refine WL.op rfl (opW.moveI rfl ?_)
                        refine WL.op rfl (opW.idxV rfl ((hS.sl (v := o.v) (xs := (NL2.map Prod.fst)) (by first | exact .h0 | exact .h1 | exact .h2 | exact .h3 | exact .h4 | exact .h5 | exact .h6 | exact .h7 | exact .h8 | exact .h9 | exact .h10 | exact .h11 | exact .h12 | exact .h13 | exact .h14))) rfl (by omega) ?_)
                        refine WL.op rfl (opW.loadV rfl ((show Ld _ _ _ _ s.v from hgo ▸ ((hS.sl (v := o.v) (xs := (NL2.map Prod.fst)) (by first | exact .h0 | exact .h1 | exact .h2 | exact .h3 | exact .h4 | exact .h5 | exact .h6 | exact .h7 | exact .h8 | exact .h9 | exact .h10 | exact .h11 | exact .h12 | exact .h13 | exact .h14)).isPt hkm).ld rfl)) ?_)
                        refine WL.op rfl (opW.moveI rfl ?_)
                        refine WL.op rfl (opW.idxV rfl ((hS.sl (v := s.v) (xs := (bs.map Prod.fst)) (by first | exact .h0 | exact .h1 | exact .h2 | exact .h3 | exact .h4 | exact .h5 | exact .h6 | exact .h7 | exact .h8 | exact .h9 | exact .h10 | exact .h11 | exact .h12 | exact .h13 | exact .h14))) rfl (by omega) ?_)
                        refine WL.op0 (opW.storeOwn (v := s.v) (u := .slice none 0 0) (sz := 1) (xs := (bs.map Prod.fst)) (i := m) (off := 0) (y' := (⟨none, 0, 0⟩ : SlV)) hS (by first | exact .h0 | exact .h1 | exact .h2 | exact .h3 | exact .h4 | exact .h5 | exact .h6 | exact .h7 | exact .h8 | exact .h9 | exact .h10 | exact .h11 | exact .h12 | exact .h13 | exact .h14) hmm (ptrAdd_zero s.v m (Enc.sz SlV)).symm rfl (by rfl) (by decide) (Enc.one (α := SlV) ⟨none, 0, 0⟩) (spl_all (by rfl)) ?_)
                        intro w hS; replace hS := hS _ (by first | exact .h0 | exact .h1 | exact .h2 | exact .h3 | exact .h4 | exact .h5 | exact .h6 | exact .h7 | exact .h8 | exact .h9 | exact .h10 | exact .h11 | exact .h12 | exact .h13 | exact .h14)
                        refine WL.nil ?_
                        refine blockQ_n ?_
                        refine thenQ_n (hK35 _ _ ?_)
                        refine WC.region ?_
                        refine WL.op rfl (opW.moveI rfl ?_)
                        refine WL.op rfl (opW.add rfl rfl (wrap_i64 (by omega)) ?_)
                        refine WL.op rfl (opW.assignI rfl ?_)
                        refine WL.nil ?_
                        refine thenQ_n ?_
                        exact ⟨B.length - (m + 1), by omega, m + 1, bs.set m nb, ⟨rfl, rfl, rfl, rfl, rfl, rfl, congrArg (Value.int .i64) (by omega), trivial⟩, (by rw [List.map_set]; exact hS), (by rw [List.length_set]; exact hlb), by omega, rfl⟩
                      ·
                        have hr9 := hc9
                        try simp only [decide_eq_true_eq, decide_eq_false_iff_not, Bool.and_eq_true, Bool.or_eq_true, Bool.and_eq_false_iff, Bool.or_eq_false_iff, Bool.not_eq_true', Bool.not_eq_false', Int.not_lt, Int.not_le] at hc9
                        have hcl : St w0 (ownE o.v 46 ((NL2.set k (s, bs)).map Prod.fst) :: ((NL2.set k (s, bs)).flatMap nlE ++ [laE p d2, rfE p2 r2])) w := by
                          have e : (NL2.set k (s, bs)).map Prod.fst = NL2.map Prod.fst := by
                            rw [List.map_set]; show (NL2.map Prod.fst).set k s = _; rw [← hgo, List.set_getElem_self]
                          rw [e]
                          exact St.nthIn nlE [_] hk (x := (s, bs)) hS
                        refine WC.exit ?_
                        refine thenQ_e ?_
                        refine thenQ_e ?_
                        refine blockQ_hit ?_
                        refine blockQ_n ?_
                        refine thenQ_n (hK31 _ _ ?_)
                        refine WC.region ?_
                        refine WL.op rfl (opW.moveI rfl ?_)
                        refine WL.op rfl (opW.add rfl rfl (wrap_i64 (by omega)) ?_)
                        refine WL.op rfl (opW.assignI rfl ?_)
                        refine WL.nil ?_
                        refine thenQ_n ?_
                        exact ⟨NL.length - (k + 1), by omega, k + 1, NL2.set k (s, bs), ⟨rfl, rfl, rfl, rfl, rfl, congrArg (Value.int .i64) (by omega), trivial⟩, hcl, (by rw [List.length_set]; exact hl2), by omega, rfl⟩
                  ·
                    have hr8 := hc8
                    try simp only [decide_eq_true_eq, decide_eq_false_iff_not, Bool.and_eq_true, Bool.or_eq_true, Bool.and_eq_false_iff, Bool.or_eq_false_iff, Bool.not_eq_true', Bool.not_eq_false', Int.not_lt, Int.not_le] at hc8
                    refine WC.exit ?_
                    refine thenQ_e ?_
                    refine thenQ_e ?_
                    refine blockQ_hit ?_
                    refine blockQ_n ?_
                    refine thenQ_n (hK15 _ _ ?_)
                    refine WC.region ?_
                    refine WL.op rfl (opW.moveI rfl ?_)
                    refine WL.op rfl (opW.add rfl rfl (wrap_i64 (by omega)) ?_)
                    refine WL.op rfl (opW.assignI rfl ?_)
                    refine WL.nil ?_
                    refine thenQ_n ?_
                    exact ⟨xs.length - (i + 1), by omega, i + 1, d2, r2, ⟨rfl, rfl, rfl, congrArg (Value.int .i64) (by omega), trivial⟩, (hS.drop1.sub (List.sublist_append_right _ _)), hCC2, hok2, hor2, hne2, by omega, rfl⟩
          ·
            have hr3 := hc3
            try simp only [decide_eq_true_eq, decide_eq_false_iff_not, Bool.and_eq_true, Bool.or_eq_true, Bool.and_eq_false_iff, Bool.or_eq_false_iff, Bool.not_eq_true', Bool.not_eq_false', Int.not_lt, Int.not_le] at hc3
            obtain rfl : i = xs.length := by omega
            refine WC.exit ?_
            refine thenQ_e ?_
            refine thenQ_e ?_
            refine blockQ_hit ?_
            refine thenQ_n (hK11 _ _ ?_)
            refine WC.seq (fun K37 hK37 => ?_)
            refine WC.draw 11 (.look 0 (.look 2 (.look 3 (.look 4 (.look 5 (.one 1 (.one 6 (.look 7 (.one 8 (.look 9 (.look 10 .nil))))))))))) (by kernel_rfl) (fun _ _ _ h => h) (fun w1 hw1 => ?_)
            replace hS := hS.bel hw1
            have hS1 := hS
            have hT := St.start w1
            refine ML.look rfl rfl rfl (fun w hw => (by have hS := hS1.bel hw; exact opW.moveV (v := .pointer (some ⟨p, 0, none⟩)) rfl ⟨rfl, rfl⟩)) ?_
            refine ML.look rfl rfl rfl (fun w hw => (by have hS := hS1.bel hw; exact opW.moveV (v := .pointer (some ⟨p2, 0, none⟩)) rfl ⟨rfl, rfl⟩)) ?_
            refine ML.look rfl rfl rfl (fun w hw => (by have hS := hS1.bel hw; exact opW.nilCheckB rfl ⟨rfl, rfl⟩)) ?_
            refine ML.look rfl rfl rfl (fun w hw => (by have hS := hS1.bel hw; exact opW.fieldAddrB rfl ⟨rfl, rfl⟩)) ?_
            refine ML.look rfl rfl rfl (fun w hw => (by have hS := hS1.bel hw; exact opW.loadV rfl ((hS.rfAt (by first | exact .h0 | exact .h1 | exact .h2 | exact .h3 | exact .h4 | exact .h5 | exact .h6 | exact .h7 | exact .h8 | exact .h9 | exact .h10 | exact .h11 | exact .h12 | exact .h13 | exact .h14) hor).b.at1 (RLa.at_l _)) ⟨rfl, rfl⟩)) ?_
            refine ML.one rfl rfl rfl (opW.call (all_ok _ p d xs.length (hS.laAt (by first | exact .h0 | exact .h1 | exact .h2 | exact .h3 | exact .h4 | exact .h5 | exact .h6 | exact .h7 | exact .h8 | exact .h9 | exact .h10 | exact .h11 | exact .h12 | exact .h13 | exact .h14)) hok (by omega)) rfl ?_)
            rintro _ w ⟨o, NL, rfl, hNL, hn167, hw⟩; replace hT := hT.newE hw hn167
            refine ⟨hT.old, ?_⟩
            have hS := hS1.merge hT
            try simp only [List.cons_append, List.nil_append] at hS
            refine ML.one rfl rfl rfl (opW.call (alike_ok _ _ _ (nlC NL) r.C (hS.nestE (by first | exact .h0 | exact .h1 | exact .h2 | exact .h3 | exact .h4 | exact .h5 | exact .h6 | exact .h7 | exact .h8 | exact .h9 | exact .h10 | exact .h11 | exact .h12 | exact .h13 | exact .h14)) (hS.rfAt (by first | exact .h0 | exact .h1 | exact .h2 | exact .h3 | exact .h4 | exact .h5 | exact .h6 | exact .h7 | exact .h8 | exact .h9 | exact .h10 | exact .h11 | exact .h12 | exact .h13 | exact .h14) hor).nest) rfl ?_)
            rintro v w ⟨hv, hw⟩; replace hT := hT.bel hw
            replace hv : v = .bool true := by rw [hv, hNL, hCC, decide_eq_true rfl]
            subst hv
            refine ⟨hT.old, ?_⟩
            have hS := hS1.merge hT
            try simp only [List.cons_append, List.nil_append] at hS
            refine ML.look rfl rfl rfl (fun w hw => (by have hS := hS1.bel hw; exact opW.moveB rfl ⟨rfl, rfl⟩)) ?_
            refine ML.oneT 173 rfl rfl rfl rfl rfl rfl (opW.call (lives_ok _) rfl ?_)
            rintro _ w ⟨rfl, hw⟩; replace hT := hT.bel hw
            refine ⟨hT.old, ?_⟩
            have hS := hS1.merge hT
            try simp only [List.cons_append, List.nil_append] at hS
            refine ML.look rfl rfl rfl (fun w hw => (by have hS := hS1.bel hw; exact opW.pickT rfl rfl ⟨rfl, rfl⟩)) ?_
            refine ML.look rfl rfl rfl (fun w hw => (by have hS := hS1.bel hw; exact opW.assignB rfl ⟨rfl, rfl⟩)) ?_
            refine ML.nil ?_
            refine thenQ_n (hK37 _ _ ?_)
            refine WC.ret ?_
            refine bodyQ_ret (.tmpB rfl .nil) ?_
            exact ⟨rfl, hS.old⟩

theorem play_law (w0 : World) (wk : Int) (v : Value) (xs : List Act) (ac : Nat → List I64) (hx : SlR w0 v xs) (hac : ∀ i (hi : i < xs.length), SlR w0 xs[i].batch.v (ac i) ∧ (ac i).length ≤ 17592186044416) (hxb : xs.length ≤ 17592186044416) : Ret Try.prog 3 #[.int .i64 wk, v] w0 (fun r w' => r = .bool true ∧ Bel w0 w') := by
  cases hb : inR (wk - 1) 64 with
  | false => exact play_bad w0 wk v xs ac hx hac hxb hb
  | true => exact play_good w0 wk v xs ac hx hac hxb hb

end Go.Fer
