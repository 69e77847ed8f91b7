/- lives -/
import Derived.Test.YtppgmnljciakhaaF
set_option linter.all false
namespace Go.Fer
open Go Go.Proofs Go.RowKit

theorem lit_nest {w : World} {va : Value} {s1 s2 : SlV} {x : List I64} (h1 : SlR w va [s1, ⟨none, 0, 0⟩]) (h2 : SlR w s1.v [s2]) (h3 : SlR w s2.v x) : NestR w va [[x], []] := by
  refine ⟨_, h1, rfl, fun k a b => ?_⟩
  rcases k with _ | _ | k
  · refine ⟨_, h2, rfl, fun m a b => ?_⟩
    rcases m with _ | m
    · exact h3
    · exact absurd a (by simp)
  · exact ⟨[], SlR.nil w, rfl, fun m a => absurd a (by simp)⟩
  · exact absurd a (by simp)

set_option maxRecDepth 20000 in
set_option maxHeartbeats 4000000 in
theorem lives_ok (w0 : World) : Ret Try.prog 8 #[] w0 (fun u w' => u = .bool true ∧ Bel w0 w') := by
  refine Ret.enter (args := []) Try.func8 rfl Try.ntmps8 Try.results8 rfl ?_
  have hS := St.start w0
  refine WC.seq (fun K1 hK1 => ?_)
  refine WC.region ?_
  refine WL.op rfl (opW.assignB rfl ?_)
  refine WL.nil ?_
  refine thenQ_n (hK1 _ _ ?_)
  refine WC.seq (fun K2 hK2 => ?_)
  refine WC.region ?_
  refine WL.op rfl (opW.call (new_ok _ 2) rfl ?_)
  rintro v w (⟨h, _⟩ | ⟨_, p, d0, rfl, hok0, hC0, hne0, hn, hw⟩)
  · exact absurd h (by decide)
  replace hS := hS.newE hw hn
  replace hC0 : d0.C = [[], []] := hC0
  refine WL.op rfl (opW.moveV (v := .tuple #[.pointer (some ⟨p, 0, none⟩), .int .i64 0]) rfl ?_)
  refine WL.op rfl (opW.extract rfl rfl ?_)
  refine WL.op rfl (opW.extract rfl rfl ?_)
  refine WL.op rfl (opW.assignV (v := .pointer (some ⟨p, 0, none⟩)) rfl ?_)
  refine WL.op rfl (opW.assignI rfl ?_)
  refine WL.nil ?_
  refine thenQ_n (hK2 _ _ ?_)
  refine WC.seq (fun K3 hK3 => ?_)
  refine WC.seq (fun K4 hK4 => ?_)
  refine WC.region ?_
  refine WL.op rfl (opW.moveI rfl ?_)
  refine WL.op rfl (opW.boolF (by decide) (opW.neq rfl rfl ⟨rfl, rfl⟩) ?_)
  refine WL.op rfl (opW.moveB rfl ?_)
  refine WL.gT 16 rfl rfl rfl (WL.op rfl (opW.moveV (v := .pointer (some ⟨p, 0, none⟩)) rfl ?_))
  refine WL.gT 16 rfl rfl rfl (WL.op rfl (opW.buildSl hS (([⟨4⟩, ⟨5⟩] : List I64)) [.int .i64 4, .int .i64 5] rfl rfl rfl rfl (by decide) ?_))
  intro b18 w hw hS
  refine WL.gT 16 rfl rfl rfl (WL.op rfl (opW.call (pushL_ok _ _ _ p d0 0 0 _ ([⟨4⟩, ⟨5⟩] : List I64) (hS.pick (e := laE p d0) (by first | exact .h0 | exact .h1 | exact .h2 | exact .h3 | exact .h4 | exact .h5 | exact .h6 | exact .h7 | exact .h8 | exact .h9 | exact .h10 | exact .h11 | exact .h12 | exact .h13 | exact .h14)) hok0 (by decide) hne0 (fun w h => h.sl (v := .slice (some ⟨b18, 0, none⟩) 2 2) (xs := ([⟨4⟩, ⟨5⟩] : List I64)) (by first | exact .h0 | exact .h1 | exact .h2 | exact .h3 | exact .h4 | exact .h5 | exact .h6 | exact .h7 | exact .h8 | exact .h9 | exact .h10 | exact .h11 | exact .h12 | exact .h13 | exact .h14))) rfl ?_))
  rintro v w ⟨d1, hv, hC1, hl1, hok1, hS⟩
  rw [hC0] at hv hC1
  replace hv : v = .int .i64 0 := hv
  subst hv
  replace hC1 : d1.C = ([[[⟨4⟩, ⟨5⟩]], []] : Cn) := hC1
  have hne1 : d1.lv.a.isNone = false := by rw [hl1]; exact hne0
  refine WL.gT 16 rfl rfl rfl (WL.op rfl (opW.boolF (by decide) (opW.neq rfl rfl ⟨rfl, rfl⟩) ?_))
  refine WL.op rfl (opW.pickT rfl rfl ?_)
  refine WL.op rfl (opW.moveB rfl ?_)
  refine WL.gT 22 rfl rfl rfl (WL.op rfl (opW.moveV (v := .pointer (some ⟨p, 0, none⟩)) rfl ?_))
  refine WL.gT 22 rfl rfl rfl (WL.op rfl (opW.buildSl hS (([⟨6⟩] : List I64)) [.int .i64 6] rfl rfl rfl rfl (by decide) ?_))
  intro b24 w hw hS
  refine WL.gT 22 rfl rfl rfl (WL.op rfl (opW.call (pushL_ok _ _ _ p d1 1 0 _ ([⟨6⟩] : List I64) (hS.pick (e := laE p d1) (by first | exact .h0 | exact .h1 | exact .h2 | exact .h3 | exact .h4 | exact .h5 | exact .h6 | exact .h7 | exact .h8 | exact .h9 | exact .h10 | exact .h11 | exact .h12 | exact .h13 | exact .h14)) hok1 (by decide) hne1 (fun w h => h.sl (v := .slice (some ⟨b24, 0, none⟩) 1 1) (xs := ([⟨6⟩] : List I64)) (by first | exact .h0 | exact .h1 | exact .h2 | exact .h3 | exact .h4 | exact .h5 | exact .h6 | exact .h7 | exact .h8 | exact .h9 | exact .h10 | exact .h11 | exact .h12 | exact .h13 | exact .h14))) rfl ?_))
  rintro v w ⟨d2, hv, hC2, hl2, hok2, hS⟩
  rw [hC1] at hv hC2
  replace hv : v = .int .i64 0 := hv
  subst hv
  replace hC2 : d2.C = ([[[⟨4⟩, ⟨5⟩], [⟨6⟩]], []] : Cn) := hC2
  have hne2 : d2.lv.a.isNone = false := by rw [hl2]; exact hne1
  refine WL.gT 22 rfl rfl rfl (WL.op rfl (opW.boolF (by decide) (opW.neq rfl rfl ⟨rfl, rfl⟩) ?_))
  refine WL.op rfl (opW.pickT rfl rfl ?_)
  refine WL.op rfl (opW.moveB rfl ?_)
  refine WL.gT 28 rfl rfl rfl (WL.op rfl (opW.moveV (v := .pointer (some ⟨p, 0, none⟩)) rfl ?_))
  refine WL.gT 28 rfl rfl rfl (WL.op rfl (opW.buildSl hS (([⟨7⟩] : List I64)) [.int .i64 7] rfl rfl rfl rfl (by decide) ?_))
  intro b30 w hw hS
  refine WL.gT 28 rfl rfl rfl (WL.op rfl (opW.call (pushL_ok _ _ _ p d2 2 1 _ ([⟨7⟩] : List I64) (hS.pick (e := laE p d2) (by first | exact .h0 | exact .h1 | exact .h2 | exact .h3 | exact .h4 | exact .h5 | exact .h6 | exact .h7 | exact .h8 | exact .h9 | exact .h10 | exact .h11 | exact .h12 | exact .h13 | exact .h14)) hok2 (by decide) hne2 (fun w h => h.sl (v := .slice (some ⟨b30, 0, none⟩) 1 1) (xs := ([⟨7⟩] : List I64)) (by first | exact .h0 | exact .h1 | exact .h2 | exact .h3 | exact .h4 | exact .h5 | exact .h6 | exact .h7 | exact .h8 | exact .h9 | exact .h10 | exact .h11 | exact .h12 | exact .h13 | exact .h14))) rfl ?_))
  rintro v w ⟨d3, hv, hC3, hl3, hok3, hS⟩
  rw [hC2] at hv hC3
  replace hv : v = .int .i64 0 := hv
  subst hv
  replace hC3 : d3.C = ([[[⟨4⟩, ⟨5⟩], [⟨6⟩]], [[⟨7⟩]]] : Cn) := hC3
  have hne3 : d3.lv.a.isNone = false := by rw [hl3]; exact hne2
  refine WL.gT 28 rfl rfl rfl (WL.op rfl (opW.boolF (by decide) (opW.neq rfl rfl ⟨rfl, rfl⟩) ?_))
  refine WL.op rfl (opW.pickT rfl rfl ?_)
  refine WL.op rfl (opW.moveB rfl ?_)
  refine WL.gT 34 rfl rfl rfl (WL.op rfl (opW.moveV (v := .pointer (some ⟨p, 0, none⟩)) rfl ?_))
  refine WL.gT 34 rfl rfl rfl (WL.op rfl (opW.call (count_ok _ p d3 0 (hS.laAt (by first | exact .h0 | exact .h1 | exact .h2 | exact .h3 | exact .h4 | exact .h5 | exact .h6 | exact .h7 | exact .h8 | exact .h9 | exact .h10 | exact .h11 | exact .h12 | exact .h13 | exact .h14))) rfl ?_))
  rintro v w ⟨hv, hw⟩; replace hS := hS.bel hw
  rw [hC3] at hv
  replace hv : v = .int .i64 3 := hv
  subst hv
  refine WL.gT 34 rfl rfl rfl (WL.op rfl (opW.boolF (by decide) (opW.neq rfl rfl ⟨rfl, rfl⟩) ?_))
  refine WL.op rfl (opW.pickT rfl rfl ?_)
  refine WL.nil ?_
  refine thenQ_n (hK4 _ _ ?_)
  refine WC.cond _ rfl (fun hc0 => ?_) (fun hc0 => ?_)
  ·
    have hr0 := hc0
    try simp only [decide_eq_true_eq, decide_eq_false_iff_not, Bool.and_eq_true, Bool.or_eq_true, Bool.and_eq_false_iff, Bool.or_eq_false_iff, Bool.not_eq_true', Bool.not_eq_false', Int.not_lt, Int.not_le] at hc0
    exact absurd hr0 (by decide)
  ·
    have hr0 := hc0
    try simp only [decide_eq_true_eq, decide_eq_false_iff_not, Bool.and_eq_true, Bool.or_eq_true, Bool.and_eq_false_iff, Bool.or_eq_false_iff, Bool.not_eq_true', Bool.not_eq_false', Int.not_lt, Int.not_le] at hc0
    refine WC.skip ?_
    refine thenQ_n (hK3 _ _ ?_)
    refine WC.seq (fun K5 hK5 => ?_)
    refine WC.region ?_
    refine WL.op rfl (opW.moveV (v := .pointer (some ⟨p, 0, none⟩)) rfl ?_)
    refine WL.op rfl (opW.call (popL_ok _ _ _ p d3 3 0 (hS.pick (e := laE p d3) (by first | exact .h0 | exact .h1 | exact .h2 | exact .h3 | exact .h4 | exact .h5 | exact .h6 | exact .h7 | exact .h8 | exact .h9 | exact .h10 | exact .h11 | exact .h12 | exact .h13 | exact .h14)) hok3 (by decide)) rfl ?_)
    rintro v w ⟨x1, d4, hv, hx1, hC4, hl4, hok4, hS⟩
    rw [hC3] at hv hx1 hC4
    replace hv : v = .tuple #[x1.1.v, .bool true] := hv
    subst hv
    replace hx1 : x1.2 = ([⟨4⟩, ⟨5⟩] : List I64) := hx1
    replace hC4 : d4.C = ([[[⟨6⟩]], [[⟨7⟩]]] : Cn) := hC4
    have hne4 : d4.lv.a.isNone = false := by rw [hl4]; exact hne3
    refine WL.op rfl (opW.moveV (v := .tuple #[x1.1.v, .bool true]) rfl ?_)
    refine WL.op rfl (opW.extract rfl rfl ?_)
    refine WL.op rfl (opW.extract rfl rfl ?_)
    refine WL.op rfl (opW.assignV (v := x1.1.v) rfl ?_)
    refine WL.op rfl (opW.assignB rfl ?_)
    refine WL.nil ?_
    refine thenQ_n (hK5 _ _ ?_)
    refine WC.seq (fun K6 hK6 => ?_)
    refine WC.region ?_
    refine WL.op rfl (opW.moveV (v := .pointer (some ⟨p, 0, none⟩)) rfl ?_)
    refine WL.op rfl (opW.call (count_ok _ p d4 0 (hS.laAt (by first | exact .h0 | exact .h1 | exact .h2 | exact .h3 | exact .h4 | exact .h5 | exact .h6 | exact .h7 | exact .h8 | exact .h9 | exact .h10 | exact .h11 | exact .h12 | exact .h13 | exact .h14))) rfl ?_)
    rintro v w ⟨hv, hw⟩; replace hS := hS.bel hw
    rw [hC4] at hv
    replace hv : v = .int .i64 1 := hv
    subst hv
    refine WL.op rfl (opW.assignI rfl ?_)
    refine WL.nil ?_
    refine thenQ_n (hK6 _ _ ?_)
    refine WC.seq (fun K7 hK7 => ?_)
    refine WC.region ?_
    refine WL.op rfl (opW.moveV (v := .pointer (some ⟨p, 0, none⟩)) rfl ?_)
    refine WL.op rfl (opW.call (popL_ok _ _ _ p d4 3 1 (hS.pick (e := laE p d4) (by first | exact .h0 | exact .h1 | exact .h2 | exact .h3 | exact .h4 | exact .h5 | exact .h6 | exact .h7 | exact .h8 | exact .h9 | exact .h10 | exact .h11 | exact .h12 | exact .h13 | exact .h14)) hok4 (by decide)) rfl ?_)
    rintro v w ⟨x2, d5, hv, hx2, hC5, hl5, hok5, hS⟩
    rw [hC4] at hv hx2 hC5
    replace hv : v = .tuple #[x2.1.v, .bool true] := hv
    subst hv
    replace hx2 : x2.2 = ([⟨7⟩] : List I64) := hx2
    replace hC5 : d5.C = ([[[⟨6⟩]], []] : Cn) := hC5
    have hne5 : d5.lv.a.isNone = false := by rw [hl5]; exact hne4
    refine WL.op rfl (opW.moveV (v := .tuple #[x2.1.v, .bool true]) rfl ?_)
    refine WL.op rfl (opW.extract rfl rfl ?_)
    refine WL.op rfl (opW.extract rfl rfl ?_)
    refine WL.op rfl (opW.assignV (v := x2.1.v) rfl ?_)
    refine WL.op rfl (opW.assignB rfl ?_)
    refine WL.nil ?_
    refine thenQ_n (hK7 _ _ ?_)
    refine WC.seq (fun K8 hK8 => ?_)
    refine WC.region ?_
    refine WL.op rfl (opW.moveV (v := .pointer (some ⟨p, 0, none⟩)) rfl ?_)
    refine WL.op rfl (opW.call (popL_ok _ _ _ p d5 3 1 (hS.pick (e := laE p d5) (by first | exact .h0 | exact .h1 | exact .h2 | exact .h3 | exact .h4 | exact .h5 | exact .h6 | exact .h7 | exact .h8 | exact .h9 | exact .h10 | exact .h11 | exact .h12 | exact .h13 | exact .h14)) hok5 (by decide)) rfl ?_)
    rintro v w ⟨x3, d6, hv, hx3, hC6, hl6, hok6, hS⟩
    rw [hC5] at hv hx3 hC6
    replace hv : v = .tuple #[x3.1.v, .bool false] := hv
    subst hv
    replace hx3 : x3.2 = ([] : List I64) := hx3
    replace hC6 : d6.C = ([[[⟨6⟩]], []] : Cn) := hC6
    have hne6 : d6.lv.a.isNone = false := by rw [hl6]; exact hne5
    refine WL.op rfl (opW.moveV (v := .tuple #[x3.1.v, .bool false]) rfl ?_)
    refine WL.op rfl (opW.extract rfl rfl ?_)
    refine WL.op rfl (opW.extract rfl rfl ?_)
    refine WL.op rfl (opW.assignV (v := x3.1.v) rfl ?_)
    refine WL.op rfl (opW.assignB rfl ?_)
    refine WL.nil ?_
    refine thenQ_n (hK8 _ _ ?_)
    refine WC.seq (fun K9 hK9 => ?_)
    refine WC.seq (fun K10 hK10 => ?_)
    refine WC.region ?_
    refine WL.op rfl (opW.moveV (v := x1.1.v) rfl ?_)
    refine WL.op rfl (opW.buildSl hS (([⟨4⟩, ⟨5⟩] : List I64)) [.int .i64 4, .int .i64 5] rfl rfl rfl rfl (by decide) ?_)
    intro b57 w hw hS
    refine WL.op rfl (opW.call (same_ok _ _ _ x1.2 ([⟨4⟩, ⟨5⟩] : List I64) (hS.sl (v := x1.1.v) (xs := x1.2) (by first | exact .h0 | exact .h1 | exact .h2 | exact .h3 | exact .h4 | exact .h5 | exact .h6 | exact .h7 | exact .h8 | exact .h9 | exact .h10 | exact .h11 | exact .h12 | exact .h13 | exact .h14)) (hS.sl (v := .slice (some ⟨b57, 0, none⟩) 2 2) (xs := ([⟨4⟩, ⟨5⟩] : List I64)) (by first | exact .h0 | exact .h1 | exact .h2 | exact .h3 | exact .h4 | exact .h5 | exact .h6 | exact .h7 | exact .h8 | exact .h9 | exact .h10 | exact .h11 | exact .h12 | exact .h13 | exact .h14))) rfl ?_)
    rintro v w ⟨hv, hw⟩; replace hS := hS.bel hw
    rw [hx1] at hv
    replace hv : v = .bool true := hv
    subst hv
    refine WL.op rfl (opW.not rfl ?_)
    refine WL.op rfl (opW.moveB rfl ?_)
    refine WL.gT 60 rfl rfl rfl (WL.op rfl (opW.moveB rfl ?_))
    refine WL.gT 60 rfl rfl rfl (WL.op rfl (opW.not rfl ?_))
    refine WL.op rfl (opW.pickT rfl rfl ?_)
    refine WL.op rfl (opW.moveB rfl ?_)
    refine WL.gT 64 rfl rfl rfl (WL.op rfl (opW.moveI rfl ?_))
    refine WL.gT 64 rfl rfl rfl (WL.op rfl (opW.boolF (by decide) (opW.neq rfl rfl ⟨rfl, rfl⟩) ?_))
    refine WL.op rfl (opW.pickT rfl rfl ?_)
    refine WL.op rfl (opW.moveB rfl ?_)
    refine WL.gT 68 rfl rfl rfl (WL.op rfl (opW.moveV (v := x2.1.v) rfl ?_))
    refine WL.gT 68 rfl rfl rfl (WL.op rfl (opW.buildSl hS (([⟨7⟩] : List I64)) [.int .i64 7] rfl rfl rfl rfl (by decide) ?_))
    intro b70 w hw hS
    refine WL.gT 68 rfl rfl rfl (WL.op rfl (opW.call (same_ok _ _ _ x2.2 ([⟨7⟩] : List I64) (hS.sl (v := x2.1.v) (xs := x2.2) (by first | exact .h0 | exact .h1 | exact .h2 | exact .h3 | exact .h4 | exact .h5 | exact .h6 | exact .h7 | exact .h8 | exact .h9 | exact .h10 | exact .h11 | exact .h12 | exact .h13 | exact .h14)) (hS.sl (v := .slice (some ⟨b70, 0, none⟩) 1 1) (xs := ([⟨7⟩] : List I64)) (by first | exact .h0 | exact .h1 | exact .h2 | exact .h3 | exact .h4 | exact .h5 | exact .h6 | exact .h7 | exact .h8 | exact .h9 | exact .h10 | exact .h11 | exact .h12 | exact .h13 | exact .h14))) rfl ?_))
    rintro v w ⟨hv, hw⟩; replace hS := hS.bel hw
    rw [hx2] at hv
    replace hv : v = .bool true := hv
    subst hv
    refine WL.gT 68 rfl rfl rfl (WL.op rfl (opW.not rfl ?_))
    refine WL.op rfl (opW.pickT rfl rfl ?_)
    refine WL.op rfl (opW.moveB rfl ?_)
    refine WL.gT 74 rfl rfl rfl (WL.op rfl (opW.moveB rfl ?_))
    refine WL.gT 74 rfl rfl rfl (WL.op rfl (opW.not rfl ?_))
    refine WL.op rfl (opW.pickT rfl rfl ?_)
    refine WL.op rfl (opW.moveB rfl ?_)
    refine WL.gT 78 rfl rfl rfl (WL.op rfl (opW.moveB rfl ?_))
    refine WL.op rfl (opW.pickT rfl rfl ?_)
    refine WL.op rfl (opW.moveB rfl ?_)
    refine WL.gT 81 rfl rfl rfl (WL.op rfl (opW.moveV (v := .pointer (some ⟨p, 0, none⟩)) rfl ?_))
    refine WL.gT 81 rfl rfl rfl (WL.op rfl (opW.call (all_ok _ p d6 3 (hS.laAt (by first | exact .h0 | exact .h1 | exact .h2 | exact .h3 | exact .h4 | exact .h5 | exact .h6 | exact .h7 | exact .h8 | exact .h9 | exact .h10 | exact .h11 | exact .h12 | exact .h13 | exact .h14)) hok6 (by decide)) rfl ?_))
    rintro v w ⟨o, NL, rfl, hNL, hn83, hw⟩; replace hS := hS.newE hw hn83
    refine WL.gT 81 rfl rfl rfl (WL.op rfl (opW.buildSl hS (([⟨6⟩] : List I64)) [.int .i64 6] rfl rfl rfl rfl (by decide) ?_))
    intro b84 w hw hS
    refine WL.gT 81 rfl rfl rfl (WL.op rfl (opW.buildSl hS (([(⟨some ⟨b84, 0, none⟩, 1, 1⟩ : SlV)] : List SlV)) [.slice (some ⟨b84, 0, none⟩) 1 1] rfl rfl rfl rfl (by decide) ?_))
    intro b85 w hw hS
    refine WL.gT 81 rfl rfl rfl (WL.op rfl (opW.buildSl hS (([(⟨some ⟨b85, 0, none⟩, 1, 1⟩ : SlV), ⟨none, 0, 0⟩] : List SlV)) [.slice (some ⟨b85, 0, none⟩) 1 1, .slice none 0 0] rfl rfl rfl rfl (by decide) ?_))
    intro b86 w hw hS
    refine WL.gT 81 rfl rfl rfl (WL.op rfl (opW.call (alike_ok _ _ _ d6.C ([[[⟨6⟩]], []] : Cn) (hNL ▸ hS.nestE (by first | exact .h0 | exact .h1 | exact .h2 | exact .h3 | exact .h4 | exact .h5 | exact .h6 | exact .h7 | exact .h8 | exact .h9 | exact .h10 | exact .h11 | exact .h12 | exact .h13 | exact .h14)) (lit_nest (hS.sl (v := .slice (some ⟨b86, 0, none⟩) 2 2) (xs := [(⟨some ⟨b85, 0, none⟩, 1, 1⟩ : SlV), ⟨none, 0, 0⟩]) (by first | exact .h0 | exact .h1 | exact .h2 | exact .h3 | exact .h4 | exact .h5 | exact .h6 | exact .h7 | exact .h8 | exact .h9 | exact .h10 | exact .h11 | exact .h12 | exact .h13 | exact .h14)) (hS.sl (v := .slice (some ⟨b85, 0, none⟩) 1 1) (xs := [(⟨some ⟨b84, 0, none⟩, 1, 1⟩ : SlV)]) (by first | exact .h0 | exact .h1 | exact .h2 | exact .h3 | exact .h4 | exact .h5 | exact .h6 | exact .h7 | exact .h8 | exact .h9 | exact .h10 | exact .h11 | exact .h12 | exact .h13 | exact .h14)) (hS.sl (v := .slice (some ⟨b84, 0, none⟩) 1 1) (xs := ([⟨6⟩] : List I64)) (by first | exact .h0 | exact .h1 | exact .h2 | exact .h3 | exact .h4 | exact .h5 | exact .h6 | exact .h7 | exact .h8 | exact .h9 | exact .h10 | exact .h11 | exact .h12 | exact .h13 | exact .h14)))) rfl ?_))
    rintro v w ⟨hv, hw⟩; replace hS := hS.bel hw
    rw [hC6] at hv
    replace hv : v = .bool true := hv
    subst hv
    refine WL.gT 81 rfl rfl rfl (WL.op rfl (opW.not rfl ?_))
    refine WL.op rfl (opW.pickT rfl rfl ?_)
    refine WL.nil ?_
    refine thenQ_n (hK10 _ _ ?_)
    refine WC.cond _ rfl (fun hc1 => ?_) (fun hc1 => ?_)
    ·
      have hr1 := hc1
      try simp only [decide_eq_true_eq, decide_eq_false_iff_not, Bool.and_eq_true, Bool.or_eq_true, Bool.and_eq_false_iff, Bool.or_eq_false_iff, Bool.not_eq_true', Bool.not_eq_false', Int.not_lt, Int.not_le] at hc1
      exact absurd hr1 (by decide)
    ·
      have hr1 := hc1
      try simp only [decide_eq_true_eq, decide_eq_false_iff_not, Bool.and_eq_true, Bool.or_eq_true, Bool.and_eq_false_iff, Bool.or_eq_false_iff, Bool.not_eq_true', Bool.not_eq_false', Int.not_lt, Int.not_le] at hc1
      refine WC.skip ?_
      refine thenQ_n (hK9 _ _ ?_)
      refine WC.seq (fun K11 hK11 => ?_)
      refine WC.region ?_
      refine WL.op rfl (opW.moveV (v := .pointer (some ⟨p, 0, none⟩)) rfl ?_)
      refine WL.op rfl (opW.buildSl hS (([⟨8⟩] : List I64)) [.int .i64 8] rfl rfl rfl rfl (by decide) ?_)
      intro b91 w hw hS
      refine WL.op rfl (opW.call (pushL_ok _ _ _ p d6 3 2 _ ([⟨8⟩] : List I64) (hS.pick (e := laE p d6) (by first | exact .h0 | exact .h1 | exact .h2 | exact .h3 | exact .h4 | exact .h5 | exact .h6 | exact .h7 | exact .h8 | exact .h9 | exact .h10 | exact .h11 | exact .h12 | exact .h13 | exact .h14)) hok6 (by decide) hne6 (fun w h => h.sl (v := .slice (some ⟨b91, 0, none⟩) 1 1) (xs := ([⟨8⟩] : List I64)) (by first | exact .h0 | exact .h1 | exact .h2 | exact .h3 | exact .h4 | exact .h5 | exact .h6 | exact .h7 | exact .h8 | exact .h9 | exact .h10 | exact .h11 | exact .h12 | exact .h13 | exact .h14))) rfl ?_)
      rintro v w ⟨d7, hv, hC7, hl7, hok7, hS⟩
      rw [hC6] at hv hC7
      replace hv : v = .int .i64 1 := hv
      subst hv
      replace hC7 : d7.C = ([[[⟨6⟩]], []] : Cn) := hC7
      have hne7 : d7.lv.a.isNone = false := by rw [hl7]; exact hne6
      refine WL.op rfl (opW.boolT (by decide) (opW.eql rfl rfl ⟨rfl, rfl⟩) ?_)
      refine WL.op rfl (opW.moveB rfl ?_)
      refine WL.gT 94 rfl rfl rfl (WL.op rfl (opW.moveV (v := .pointer (some ⟨p, 0, none⟩)) rfl ?_))
      refine WL.gT 94 rfl rfl rfl (WL.op rfl (opW.call (pushL_ok _ _ _ p d7 4 0 _ ([] : List I64) (hS.pick (e := laE p d7) (by first | exact .h0 | exact .h1 | exact .h2 | exact .h3 | exact .h4 | exact .h5 | exact .h6 | exact .h7 | exact .h8 | exact .h9 | exact .h10 | exact .h11 | exact .h12 | exact .h13 | exact .h14)) hok7 (by decide) hne7 (fun w h => SlR.nil w)) rfl ?_))
      rintro v w ⟨d8, hv, hC8, hl8, hok8, hS⟩
      rw [hC7] at hv hC8
      replace hv : v = .int .i64 1 := hv
      subst hv
      replace hC8 : d8.C = ([[[⟨6⟩]], []] : Cn) := hC8
      have hne8 : d8.lv.a.isNone = false := by rw [hl8]; exact hne7
      refine WL.gT 94 rfl rfl rfl (WL.op rfl (opW.boolT (by decide) (opW.eql rfl rfl ⟨rfl, rfl⟩) ?_))
      refine WL.op rfl (opW.pickT rfl rfl ?_)
      refine WL.op rfl (opW.assignB rfl ?_)
      refine WL.nil ?_
      refine thenQ_n (hK11 _ _ ?_)
      refine WC.ret ?_
      refine bodyQ_ret (.tmpB rfl .nil) ?_
      exact ⟨rfl, hS.old⟩

end Go.Fer
