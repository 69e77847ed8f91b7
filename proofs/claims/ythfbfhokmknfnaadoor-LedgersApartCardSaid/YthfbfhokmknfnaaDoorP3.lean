/- LedgersApart -/
import Derived.Test.YthfbfhokmknfnaaDoorNF
import Derived.Test.YthfbfhokmknfnaaDoorNB
set_option linter.all false
namespace Go.Fer
open Go Go.Proofs Go.RowKit

theorem fr_ro {w0 w : World} {d : StD} {fs : List TX} {y : TX} (hb : Bel w0 w) (h : FrOk w0 d fs) (h3 : ∀ x ∈ fs, x.r.length ≤ 300) (hy : TXOk w0 y) (hy3 : y.r.length ≤ 300) {x : TX} (hx : x ∈ fs ++ [y]) : SlR w x.R.roles.v x.r ∧ x.r.length ≤ 1000 := by
 rcases List.mem_append.1 hx with hx | hx
 ·exact ⟨(h.ok x hx).ro.bel hb, by have := h3 x hx; omega⟩
 ·rw [List.mem_singleton.1 hx]
  exact ⟨hy.ro.bel hb, by omega⟩
theorem apart_at {w0 w : World} {S : List Ent} {d : StD} {fs : List TX} {e : Int} {ps rs : List (Outcome × List Holding)} (hok : StOk d) (hw : okS d) (hno : NoConf fs) (hF : FoldIs d fs fs.length ps e) (hee : ∀ (j : Nat) (hj : j < fs.length), errF d fs[j] = 0) (hrr : ∀ (j : Nat) (hj : j < rs.length) (h2 : j < fs.length), OcIs d fs[j] rs[j].1 rs[j].2) (hS : St w0 S w) (he : Has (ochE ps) S) (he1 : Has (ochE rs) S) {j : Nat} (h1 : j < (ps.map Prod.fst).length) (h2 : j < (rs.map Prod.fst).length) : ∃ ch : List Holding, SlR w ((ps.map Prod.fst)[j]).changed.v ch ∧ SlR w ((rs.map Prod.fst)[j]).changed.v ch ∧ OSame (ps.map Prod.fst)[j] (rs.map Prod.fst)[j] := by
 have h3 : j < ps.length := by simpa using h1
 have h4 : j < rs.length := by simpa using h2
 have hl := hF.len
 have hj : j < fs.length := by omega
 obtain ⟨ha, hb⟩ := OcIs.same (OcIs_load (load_apart hok hw hno hj) (hF.out j h3 hj).1) (hrr j h4 hj) (hee j hj)
 rw [List.getElem_map, List.getElem_map]
 exact ⟨_, hS.och he h3, (by rw [hb]; exact hS.och he1 h4), ha⟩

set_option maxRecDepth 20000 in
set_option maxHeartbeats 4000000 in
theorem apart_law (w0 : World) (vl : Value) (sr : SlV) (l : List Holding) (Rs : List Ready) (at_ : Nat) (hat : at_ ≤ 255) (hl : SlR w0 vl l) (hlw : ∀ h ∈ l, okW h.account) (hr : SlR w0 sr.v Rs) (hR0 : ∀ R ∈ Rs, R.okz w0) (hg : ErrLaid w0) : Ret Tryd.prog 5 #[vl, sr.v, .int .u8 (at_ : Int)] w0 (fun r w' => r = .bool true ∧ Bel w0 w') := by
 refine Ret.enter (args := [vl, sr.v, .int .u8 (at_ : Int)]) Tryd.func5 rfl Tryd.ntmps5 Tryd.results5 rfl ?_
 have hS := St.start w0
 obtain ⟨xs, hxs, hx0⟩ := txs_of hR0
 subst hxs
 refine WC.seq (fun K1 hK1 => ?_)
 refine WC.region ?_
 refine WL.op rfl (opW.assignB rfl ?_)
 refine WL.nil ?_
 refine thenQ_n (hK1 _ _ ?_)
 refine WC.seq (fun K2 hK2 => ?_)
 refine WC.seq (fun K3 hK3 => ?_)
 refine WC.region ?_
 refine WL.op rfl (opW.moveV (v := vl) rfl ?_)
 refine WL.op rfl (opW.moveV (v := sr.v) rfl ?_)
 refine WL.op rfl (opW.call (great16 _ vl _ l (xs.map TX.R) (hl.bel hS.old) (hr.bel hS.old) (fun R hR => Ready.okz.bel hS.old (hR0 R hR))) rfl ?_)
 rintro _ w ⟨bb, rfl, hbb, hw⟩; replace hS := hS.bel hw
 refine WL.nil ?_
 refine thenQ_n (hK3 _ _ ?_)
 refine WC.cond _ rfl (fun hc0 => ?_) (fun hc0 => ?_)
 ·
  have hr0 := hc0
  try simp only [sq1,sq2,sq3,sq4,sq5,sq6,sq7,sq8,sq9,sq0] at hc0
  refine WC.seq (fun K4 hK4 => ?_)
  refine WC.region ?_
  refine WL.op rfl (opW.call (lives16 _ (hg.bel hS.old)) rfl ?_)
  rintro _ w ⟨rfl, hw⟩; replace hS := hS.bel hw
  refine WL.op rfl (opW.assignB rfl ?_)
  refine WL.nil ?_
  refine thenQ_n (hK4 _ _ ?_)
  refine WC.ret ?_
  refine thenQ_r ?_
  refine bodyQ_ret (.tmpB rfl .nil) ?_
  exact ⟨rfl, hS.old⟩
 ·
  have hr0 := hc0
  try simp only [sq1,sq2,sq3,sq4,sq5,sq6,sq7,sq8,sq9,sq0] at hc0
  obtain ⟨hll, hrl, hgg⟩ := hbb (by simpa using hr0)
  rw [List.length_map] at hrl
  have hxr : ∀ x ∈ xs, x.r.length ≤ 300 := fun x hx => (hgg x.R (List.mem_map_of_mem hx)).r (hx0 x hx).1
  have hxk : ∀ x ∈ xs, TXOk w0 x := fun x hx => (hx0 x hx).2 (by have := hxr x hx; omega)
  have hml : (xs.map TX.R).length = xs.length := List.length_map _
  refine WC.skip ?_
  refine thenQ_n (hK2 _ _ ?_)
  refine WC.seq (fun K5 hK5 => ?_)
  refine WC.region ?_
  refine WL.op rfl (opW.moveV (v := vl) rfl ?_)
  refine WL.op rfl (opW.call (stores15 _ vl l (hl.bel hS.old) (by omega) hlw) rfl ?_)
  rintro _ w ⟨p, q, d, rfl, hok, hoks, hN⟩
  replace hS := hS.merge hN
  simp only [List.cons_append, List.nil_append] at hS
  refine WL.op rfl (opW.moveV (v := .tuple #[.pointer (some ⟨p, 0, none⟩), .pointer (some ⟨q, 0, none⟩)]) rfl ?_)
  refine WL.op rfl (opW.extract rfl rfl ?_)
  refine WL.op rfl (opW.extract rfl rfl ?_)
  refine WL.op rfl (opW.assignV (v := .pointer (some ⟨p, 0, none⟩)) rfl ?_)
  refine WL.op rfl (opW.assignV (v := .pointer (some ⟨q, 0, none⟩)) rfl ?_)
  refine WL.nil ?_
  refine thenQ_n (hK5 _ _ ?_)
  refine WC.seq (fun K6 hK6 => ?_)
  refine WC.region ?_
  refine WL.op rfl (opW.assignV (v := .slice none 0 0) rfl ?_)
  refine WL.nil ?_
  refine thenQ_n (hK6 _ _ ?_)
  refine WC.seq (fun K7 hK7 => ?_)
  refine WC.seq (fun K8 hK8 => ?_)
  refine WC.region ?_
  refine WL.op rfl (opW.assignI rfl ?_)
  refine WL.nil ?_
  refine thenQ_n (hK8 _ _ ?_)
  refine WC.block ?_
  refine WC.loop (fun m f w => ∃ (k : Nat) (s9 : SlV) (fs : List TX), Fits [(1, sr.v), (2, .int .u8 (at_ : Int)), (7, .pointer (some ⟨p, 0, none⟩)), (9, s9.v), (10, .int .i64 (k : Int))] f ∧ St w0 [stE p d, ownE s9.v 56 (fs.map TX.R)] w ∧ FrOk w0 d fs ∧ (∀ x ∈ fs, x.r.length ≤ 300) ∧ fs.length ≤ k ∧ k ≤ xs.length ∧ m = xs.length - k) (xs.length) ?_ ?_
  ·
   exact ⟨0, ⟨none, 0, 0⟩, [], ⟨rfl, rfl, rfl, rfl, rfl, trivial⟩, (show St w0 [stE p d, ownE (.slice none 0 0) 56 ([] : List Ready)] w from ((hS.nilOwn (α := Ready) 56).pick (e := stE p d) (by repeat constructor)).sub (by repeat with_reducible first | exact su1 _ | exact su2 _ | refine su3 ?_ | refine su4 ?_)), FrOk.nil _ _, (fun x h => by cases h), Nat.le_refl _, Nat.zero_le _, rfl⟩
  ·
   rintro m f w ⟨k, s9, fs, hfit, hS, hfr, hfr3, hfk, hk0, hm⟩
   refine WC.fits _ hfit (fun g => ?_)
   clear hfit
   refine WC.seq (fun K9 hK9 => ?_)
   refine WC.seq (fun K10 hK10 => ?_)
   refine WC.region ?_
   refine WL.op rfl (opW.moveI rfl ?_)
   refine WL.op rfl (opW.moveV (v := sr.v) rfl ?_)
   refine WL.op rfl (opW.lenV rfl ((hr.bel hS.old)) ?_)
   refine WL.op rfl (opW.lss rfl rfl ?_)
   refine WL.nil ?_
   refine thenQ_n (hK10 _ _ ?_)
   refine WC.cond _ rfl (fun hc1 => ?_) (fun hc1 => ?_)
   ·
    have hr1 := hc1
    try simp only [sq1,sq2,sq3,sq4,sq5,sq6,sq7,sq8,sq9,sq0] at hc1
    have hkx : k < xs.length := by omega
    have hkm : k < (xs.map TX.R).length := by omega
    have hfl : (fs.map TX.R).length = fs.length := List.length_map _
    refine WC.skip ?_
    refine thenQ_n (hK9 _ _ ?_)
    refine WC.seq (fun K11 hK11 => ?_)
    refine WC.block ?_
    refine WC.mid (fun f w => ∃ s51 : SlV, Fits [(1, sr.v), (2, .int .u8 (at_ : Int)), (7, .pointer (some ⟨p, 0, none⟩)), (9, s9.v), (10, .int .i64 (k : Int)), (11, s51.v)] f ∧ St w0 [stE p d, ownE s9.v 56 (fs.map TX.R), ownE s51.v 56 ((fs ++ [xs[k]]).map TX.R)] w) ?_ ?_
    ·
     refine WC.draw 9 (.look 0 (.look 2 (.look 3 (.look 4 (.look 5 (.fork 1 6 (.one 6 (.one 7 (.look 8 .nil))) (.one 1 (.one 7 (.look 8 .nil))))))))) (by kernel_rfl) (fun _ _ _ h => h) (fun w1 hw1 => ?_)
     replace hS := hS.bel hw1
     have hS1 := hS
     have hT := St.start w1
     refine ML.look rfl rfl rfl (fun w hw => (by have hS := hS1.bel hw; exact opW.moveV (v := s9.v) rfl ⟨rfl, rfl⟩)) ?_
     refine ML.look rfl rfl rfl (fun w hw => (by have hS := hS1.bel hw; exact opW.moveV (v := sr.v) rfl ⟨rfl, rfl⟩)) ?_
     refine ML.look rfl rfl rfl (fun w hw => (by have hS := hS1.bel hw; exact opW.moveI rfl ⟨rfl, rfl⟩)) ?_
     refine ML.look rfl rfl rfl (fun w hw => (by have hS := hS1.bel hw; exact opW.idxV rfl ((hr.bel hS.old)) rfl (by omega) ⟨rfl, rfl⟩)) ?_
     refine ML.look rfl rfl rfl (fun w hw => (by have hS := hS1.bel hw; exact opW.loadV rfl ((((hr.bel hS.old).isPt hkm).ldA (Enc.size_eq _)).val (by rw [List.getElem_map])) ⟨rfl, rfl⟩)) ?_
     refine ML.fork rfl rfl rfl rfl ?_ ?_ 
     ·refine opW.appendNil (α := Ready) rfl hT rfl ((hS.sl (v := s9.v) (xs := fs.map TX.R) (by repeat constructor))) (by omega) (by simp only [maxLen]; omega) ?_
      intro v45 w hw hT
      refine ⟨hT.old, ?_⟩
      have hS := hS1.merge hT
      try simp only [List.cons_append, List.nil_append] at hS
      refine ML.one rfl rfl rfl (opW.buildSl hT (([xs[k].R] : List Ready)) [.agg (Enc.enc xs[k].R)] rfl rfl rfl rfl (by decide) ?_)
      intro b50 w hw hT
      refine ⟨hT.old, ?_⟩
      have hS := hS1.merge hT
      try simp only [List.cons_append, List.nil_append] at hS
      refine ML.one rfl rfl rfl (opW.appendOwn (α := Ready) (v := v45) (xs := fs.map TX.R) (ys := [xs[k].R]) rfl hT rfl (by repeat constructor) (hS.sl (v := .slice (some ⟨b50, 0, none⟩) 1 1) (xs := ([xs[k].R] : List Ready)) (by repeat constructor)) (by simp only [List.length_cons, List.length_nil]; omega) (by simp only [maxLen, List.length_cons, List.length_nil]; omega) ?_)
      intro v51 w hT; replace hT := hT _ (by repeat constructor)
      refine ⟨hT.old, ?_⟩
      have hS := hS1.merge hT
      try simp only [List.cons_append, List.nil_append] at hS
      refine ML.look rfl rfl rfl (fun w hw => (by have hS := hS1.bel hw; exact opW.assignV (v := v51) rfl ⟨rfl, rfl⟩)) ?_
      refine ML.nil ?_
      refine thenQ_n ?_
      obtain ⟨s51, rfl⟩ := (hS.sl (v := v51) (xs := fs.map TX.R ++ [xs[k].R]) (by repeat constructor)).asV
      exact ⟨s51, ⟨rfl, rfl, rfl, rfl, rfl, rfl, trivial⟩, (by rw [List.map_append, List.map_cons, List.map_nil]; exact ((((hS.pick (e := ownE s51.v 56 (fs.map TX.R ++ [xs[k].R])) (by repeat constructor)).pick (e := ownE s9.v 56 (fs.map TX.R)) (by repeat constructor)).pick (e := stE p d) (by repeat constructor)).sub (by repeat with_reducible first | exact su1 _ | exact su2 _ | refine su3 ?_ | refine su4 ?_)))⟩
     ·refine opW.buildSl hT (([xs[k].R] : List Ready)) [.agg (Enc.enc xs[k].R)] rfl rfl rfl rfl (by decide) ?_
      intro b50 w hw hT
      refine ⟨hT.old, ?_⟩
      have hS := hS1.merge hT
      try simp only [List.cons_append, List.nil_append] at hS
      refine ML.one rfl rfl rfl (opW.appendNil (α := Ready) rfl hT rfl ((hS.sl (v := s9.v) (xs := fs.map TX.R) (by repeat constructor))) (by omega) (by simp only [maxLen]; omega) ?_)
      intro v45 w hw hT
      refine ⟨hT.old, ?_⟩
      have hS := hS1.merge hT
      try simp only [List.cons_append, List.nil_append] at hS
      refine ML.one rfl rfl rfl (opW.appendOwn (α := Ready) (v := v45) (xs := fs.map TX.R) (ys := [xs[k].R]) rfl hT rfl (by repeat constructor) (hS.sl (v := .slice (some ⟨b50, 0, none⟩) 1 1) (xs := ([xs[k].R] : List Ready)) (by repeat constructor)) (by simp only [List.length_cons, List.length_nil]; omega) (by simp only [maxLen, List.length_cons, List.length_nil]; omega) ?_)
      intro v51 w hT; replace hT := hT _ (by repeat constructor)
      refine ⟨hT.old, ?_⟩
      have hS := hS1.merge hT
      try simp only [List.cons_append, List.nil_append] at hS
      refine ML.look rfl rfl rfl (fun w hw => (by have hS := hS1.bel hw; exact opW.assignV (v := v51) rfl ⟨rfl, rfl⟩)) ?_
      refine ML.nil ?_
      refine thenQ_n ?_
      obtain ⟨s51, rfl⟩ := (hS.sl (v := v51) (xs := fs.map TX.R ++ [xs[k].R]) (by repeat constructor)).asV
      exact ⟨s51, ⟨rfl, rfl, rfl, rfl, rfl, rfl, trivial⟩, (by rw [List.map_append, List.map_cons, List.map_nil]; exact ((((hS.pick (e := ownE s51.v 56 (fs.map TX.R ++ [xs[k].R])) (by repeat constructor)).pick (e := ownE s9.v 56 (fs.map TX.R)) (by repeat constructor)).pick (e := stE p d) (by repeat constructor)).sub (by repeat with_reducible first | exact su1 _ | exact su2 _ | refine su3 ?_ | refine su4 ?_)))⟩
    ·
     rintro f w ⟨s51, hfit, hS⟩
     refine WC.fits _ hfit (fun g => ?_)
     clear hfit
     refine WC.seq (fun K12 hK12 => ?_)
     refine WC.region ?_
     have hP := hS.pick (e := stE p d) (by repeat constructor)
     have hxkk := hxk xs[k] (List.getElem_mem hkx)
     refine WL.op rfl (opW.moveV (v := .pointer (some ⟨p, 0, none⟩)) rfl ?_)
     refine WL.op rfl (opW.moveV (v := sr.v) rfl ?_)
     refine WL.op rfl (opW.moveI rfl ?_)
     refine WL.op rfl (opW.idxV rfl ((hr.bel hS.old)) rfl (by omega) ?_)
     refine WL.op rfl (opW.loadV rfl ((((hr.bel hS.old).isPt hkm).ldA (Enc.size_eq _)).val (by rw [List.getElem_map])) ?_)
     refine WL.op rfl (opW.call (load_tx w0 _ _ p d xs[k] hok hoks (fun w hS => hxkk.bel hS.old) hP) rfl ?_)
     rintro _ w ⟨sl, e1, ll, rfl, hcase, hS⟩
     refine WL.op rfl (opW.moveV (v := .tuple #[sl.v, .int .i64 e1]) rfl ?_)
     refine WL.op rfl (opW.extract rfl rfl ?_)
     refine WL.op rfl (opW.extract rfl rfl ?_)
     refine WL.op rfl (opW.assignV (v := sl.v) rfl ?_)
     refine WL.op rfl (opW.assignI rfl ?_)
     refine WL.nil ?_
     refine thenQ_n (hK12 _ _ ?_)
     refine WC.seq (fun K13 hK13 => ?_)
     refine WC.region ?_
     refine WL.op rfl (opW.moveI rfl ?_)
     refine WL.op rfl (opW.eql rfl rfl ?_)
     cases hcs62 : (decide (e1 = 0)) with
     | true =>
      refine WL.op rfl (opW.moveB rfl ?_)
      refine WL.gT 63 rfl rfl rfl (WL.op rfl (opW.moveV (v := s51.v) rfl ?_))
      refine WL.gT 63 rfl rfl rfl (WL.op rfl (opW.call (apart17 _ s51.v (fs ++ [xs[k]]) (hS.sl (v := s51.v) (xs := (fs ++ [xs[k]]).map TX.R) (by repeat constructor)) (by rw [List.length_append]; simp; omega) (fun x hx => fr_ro hS.old hfr hfr3 (hxk _ (List.getElem_mem hkx)) (hxr _ (List.getElem_mem hkx)) hx)) rfl ?_))
      rintro _ w ⟨b65, rfl, hno, hw⟩; replace hS := hS.bel hw
      refine WL.op rfl (opW.pickT rfl rfl ?_)
      refine WL.nil ?_
      refine thenQ_n (hK13 _ _ ?_)
      refine WC.cond _ rfl (fun hc2 => ?_) (fun hc2 => ?_)
      ·
       have hr2 := hc2
       try simp only [sq1,sq2,sq3,sq4,sq5,sq6,sq7,sq8,sq9,sq0] at hc2
       have hno2 := hno (by simpa using hr2)
       have hz1 : e1 = 0 := of_decide_eq_true hcs62
       have hpay : payB xs[k].R.fee xs[k].r (loadA d xs[k].r) = true := (hcase.resolve_left (fun h => absurd (hz1.symm.trans h.2) (by decide))).1
       have hnew := hfr.add hno2 hpay hxkk
       have hnew3 : ∀ x ∈ fs ++ [xs[k]], x.r.length ≤ 300 := (fun x hx => (List.mem_append.1 hx).elim (hfr3 x) (fun h => by rw [List.mem_singleton.1 h]; exact hxr _ (List.getElem_mem hkx)))
       refine WC.region ?_
       refine WL.op rfl (opW.moveV (v := s51.v) rfl ?_)
       refine WL.op rfl (opW.assignV (v := s51.v) rfl ?_)
       refine WL.nil ?_
       refine blockQ_n ?_
       refine thenQ_n (hK11 _ _ ?_)
       refine WC.region ?_
       refine WL.op rfl (opW.moveI rfl ?_)
       refine WL.op rfl (opW.add rfl rfl (wrap_i64 (by omega)) ?_)
       refine WL.op rfl (opW.assignI rfl ?_)
       refine WL.nil ?_
       refine thenQ_n ?_
       first
        | exact ⟨xs.length - (k + 1), by omega, k + 1, s51, fs ++ [xs[k]], ⟨rfl, rfl, rfl, rfl, congrArg (Value.int .i64) (by omega), trivial⟩, (((hS.pick (e := ownE s51.v 56 ((fs ++ [xs[k]]).map TX.R)) (by repeat constructor)).pick (e := stE p d) (by repeat constructor)).sub (by repeat with_reducible first | exact su1 _ | exact su2 _ | refine su3 ?_ | refine su4 ?_)), hnew, hnew3, (by rw [List.length_append]; simp; omega), by omega, rfl⟩
        | exact ⟨xs.length - (k + 1), by omega, k + 1, s9, fs, ⟨rfl, rfl, rfl, rfl, congrArg (Value.int .i64) (by omega), trivial⟩, (((hS.pick (e := ownE s9.v 56 (fs.map TX.R)) (by repeat constructor)).pick (e := stE p d) (by repeat constructor)).sub (by repeat with_reducible first | exact su1 _ | exact su2 _ | refine su3 ?_ | refine su4 ?_)), hfr, hfr3, by omega, by omega, rfl⟩
      ·
       have hr2 := hc2
       try simp only [sq1,sq2,sq3,sq4,sq5,sq6,sq7,sq8,sq9,sq0] at hc2
       refine WC.skip ?_
       refine blockQ_n ?_
       refine thenQ_n (hK11 _ _ ?_)
       refine WC.region ?_
       refine WL.op rfl (opW.moveI rfl ?_)
       refine WL.op rfl (opW.add rfl rfl (wrap_i64 (by omega)) ?_)
       refine WL.op rfl (opW.assignI rfl ?_)
       refine WL.nil ?_
       refine thenQ_n ?_
       first
        | exact ⟨xs.length - (k + 1), by omega, k + 1, s51, fs ++ [xs[k]], ⟨rfl, rfl, rfl, rfl, congrArg (Value.int .i64) (by omega), trivial⟩, (((hS.pick (e := ownE s51.v 56 ((fs ++ [xs[k]]).map TX.R)) (by repeat constructor)).pick (e := stE p d) (by repeat constructor)).sub (by repeat with_reducible first | exact su1 _ | exact su2 _ | refine su3 ?_ | refine su4 ?_)), hnew, hnew3, (by rw [List.length_append]; simp; omega), by omega, rfl⟩
        | exact ⟨xs.length - (k + 1), by omega, k + 1, s9, fs, ⟨rfl, rfl, rfl, rfl, congrArg (Value.int .i64) (by omega), trivial⟩, (((hS.pick (e := ownE s9.v 56 (fs.map TX.R)) (by repeat constructor)).pick (e := stE p d) (by repeat constructor)).sub (by repeat with_reducible first | exact su1 _ | exact su2 _ | refine su3 ?_ | refine su4 ?_)), hfr, hfr3, by omega, by omega, rfl⟩
     | false =>
      refine WL.op rfl (opW.moveB rfl ?_)
      refine WL.gF 63 rfl rfl rfl rfl ?_
      refine WL.gF 63 rfl rfl rfl rfl ?_
      refine WL.op rfl (opW.pickT rfl rfl ?_)
      refine WL.nil ?_
      refine thenQ_n (hK13 _ _ ?_)
      refine WC.cond _ rfl (fun hc2 => ?_) (fun hc2 => ?_)
      ·
       have hr2 := hc2
       try simp only [sq1,sq2,sq3,sq4,sq5,sq6,sq7,sq8,sq9,sq0] at hc2
       cases hr2
      ·
       have hr2 := hc2
       try simp only [sq1,sq2,sq3,sq4,sq5,sq6,sq7,sq8,sq9,sq0] at hc2
       refine WC.skip ?_
       refine blockQ_n ?_
       refine thenQ_n (hK11 _ _ ?_)
       refine WC.region ?_
       refine WL.op rfl (opW.moveI rfl ?_)
       refine WL.op rfl (opW.add rfl rfl (wrap_i64 (by omega)) ?_)
       refine WL.op rfl (opW.assignI rfl ?_)
       refine WL.nil ?_
       refine thenQ_n ?_
       first
        | exact ⟨xs.length - (k + 1), by omega, k + 1, s51, fs ++ [xs[k]], ⟨rfl, rfl, rfl, rfl, congrArg (Value.int .i64) (by omega), trivial⟩, (((hS.pick (e := ownE s51.v 56 ((fs ++ [xs[k]]).map TX.R)) (by repeat constructor)).pick (e := stE p d) (by repeat constructor)).sub (by repeat with_reducible first | exact su1 _ | exact su2 _ | refine su3 ?_ | refine su4 ?_)), hnew, hnew3, (by rw [List.length_append]; simp; omega), by omega, rfl⟩
        | exact ⟨xs.length - (k + 1), by omega, k + 1, s9, fs, ⟨rfl, rfl, rfl, rfl, congrArg (Value.int .i64) (by omega), trivial⟩, (((hS.pick (e := ownE s9.v 56 (fs.map TX.R)) (by repeat constructor)).pick (e := stE p d) (by repeat constructor)).sub (by repeat with_reducible first | exact su1 _ | exact su2 _ | refine su3 ?_ | refine su4 ?_)), hfr, hfr3, by omega, by omega, rfl⟩
   ·
    have hr1 := hc1
    try simp only [sq1,sq2,sq3,sq4,sq5,sq6,sq7,sq8,sq9,sq0] at hc1
    have hfl : (fs.map TX.R).length = fs.length := List.length_map _
    refine WC.exit ?_
    refine thenQ_e ?_
    refine thenQ_e ?_
    refine blockQ_hit ?_
    refine thenQ_n (hK7 _ _ ?_)
    refine WC.seq (fun K14 hK14 => ?_)
    refine WC.region ?_
    refine WL.op rfl (opW.moveV (v := s9.v) rfl ?_)
    refine WL.op rfl (opW.lenV rfl ((hS.sl (v := s9.v) (xs := fs.map TX.R) (by repeat constructor))) ?_)
    rw [hfl]
    refine WL.op rfl (opW.assignI rfl ?_)
    refine WL.nil ?_
    refine thenQ_n (hK14 _ _ ?_)
    refine WC.seq (fun K15 hK15 => ?_)
    refine WC.seq (fun K16 hK16 => ?_)
    refine WC.region ?_
    refine WL.op rfl (opW.moveI rfl ?_)
    refine WL.op rfl (opW.eql rfl rfl ?_)
    refine WL.nil ?_
    refine thenQ_n (hK16 _ _ ?_)
    refine WC.cond _ rfl (fun hc3 => ?_) (fun hc3 => ?_)
    ·
     have hr3 := hc3
     try simp only [sq1,sq2,sq3,sq4,sq5,sq6,sq7,sq8,sq9,sq0] at hc3
     refine WC.seq (fun K17 hK17 => ?_)
     refine WC.region ?_
     refine WL.op rfl (opW.call (lives16 _ (hg.bel hS.old)) rfl ?_)
     rintro _ w ⟨rfl, hw⟩; replace hS := hS.bel hw
     refine WL.op rfl (opW.assignB rfl ?_)
     refine WL.nil ?_
     refine thenQ_n (hK17 _ _ ?_)
     refine WC.ret ?_
     refine thenQ_r ?_
     refine bodyQ_ret (.tmpB rfl .nil) ?_
     exact ⟨rfl, hS.old⟩
    ·
     have hr3 := hc3
     try simp only [sq1,sq2,sq3,sq4,sq5,sq6,sq7,sq8,sq9,sq0] at hc3
     have hn0 : 0 < fs.length := by omega
     refine WC.skip ?_
     refine thenQ_n (hK15 _ _ ?_)
     refine WC.seq (fun K18 hK18 => ?_)
     refine WC.region ?_
     refine WL.op rfl (opW.moveV (v := .pointer (some ⟨p, 0, none⟩)) rfl ?_)
     refine WL.op rfl (opW.call (copy13 _ p d (hS.stAt (by repeat constructor))) rfl ?_)
     rintro _ w ⟨p2, r2, rfl, hN, hw⟩; replace hS := hS.newE hw hN
     replace hS : St w0 (stE p2 (d.re r2) :: _) _ := hS
     have hok2 : StOk (d.re r2) := ⟨hok.nd, hok.ne⟩
     have hoks2 : okS (d.re r2) := hoks
     refine WL.op rfl (opW.assignV (v := .pointer (some ⟨p2, 0, none⟩)) rfl ?_)
     refine WL.nil ?_
     refine thenQ_n (hK18 _ _ ?_)
     refine WC.seq (fun K19 hK19 => ?_)
     refine WC.region ?_
     have hP := hS.pick (e := stE p d) (by repeat constructor)
     refine WL.op rfl (opW.moveV (v := .pointer (some ⟨p, 0, none⟩)) rfl ?_)
     refine WL.op rfl (opW.moveV (v := s9.v) rfl ?_)
     refine WL.op rfl (opW.call (fold_ok w0 _ _ p s9 fs d hg hok hoks (by omega) (fun w hS => ⟨hS.sl (v := s9.v) (xs := fs.map TX.R) (by repeat constructor), fun x hx => (hfr.ok x hx).bel hS.old⟩) hP) rfl ?_)
     rintro _ w ⟨k1, s1, ps, e, rfl, hF, hS⟩
     have hl0 := hF.len
     have hm0 := (List.length_map _ : (ps.map Prod.fst).length = ps.length)
     refine WL.op rfl (opW.moveV (v := .tuple #[s1.v, .int .u64 ((feeL ps : Nat) : Int), .int .i64 e]) rfl ?_)
     refine WL.op rfl (opW.extract rfl rfl ?_)
     refine WL.op rfl (opW.extract rfl rfl ?_)
     refine WL.op rfl (opW.extract rfl rfl ?_)
     refine WL.op rfl (opW.assignV (v := s1.v) rfl ?_)
     refine WL.op rfl (opW.assignI rfl ?_)
     refine WL.op rfl (opW.assignI rfl ?_)
     refine WL.nil ?_
     refine thenQ_n (hK19 _ _ ?_)
     refine WC.seq (fun K20 hK20 => ?_)
     refine WC.seq (fun K21 hK21 => ?_)
     refine WC.region ?_
     refine WL.op rfl (opW.moveI rfl ?_)
     refine WL.op rfl (opW.neq rfl rfl ?_)
     cases hcs83 : (!decide (e = 0)) with
     | true =>
      refine WL.op rfl (opW.moveB rfl ?_)
      refine WL.gF 84 rfl rfl rfl rfl ?_
      refine WL.gF 84 rfl rfl rfl rfl ?_
      refine WL.gF 84 rfl rfl rfl rfl ?_
      refine WL.gF 84 rfl rfl rfl rfl ?_
      refine WL.op rfl (opW.pickT rfl rfl ?_)
      refine WL.nil ?_
      refine thenQ_n (hK21 _ _ ?_)
      refine WC.cond _ rfl (fun hc4 => ?_) (fun hc4 => ?_)
      ·
       have hr4 := hc4
       try simp only [sq1,sq2,sq3,sq4,sq5,sq6,sq7,sq8,sq9,sq0] at hc4
       have he1 := hfr.stop hok hoks hF (by simpa using hcs83)
       refine WC.seq (fun K22 hK22 => ?_)
       refine WC.region ?_
       refine WL.op rfl (opW.moveI rfl ?_)
       refine WL.op rfl (opW.boolT (decide_eq_true he1) (opW.eql rfl rfl ⟨rfl, rfl⟩) ?_)
       refine WL.op rfl (opW.moveB rfl ?_)
       refine WL.gT 92 rfl rfl rfl (WL.op rfl (opW.call (lives16 _ (hg.bel hS.old)) rfl ?_))
       rintro _ w ⟨rfl, hw⟩; replace hS := hS.bel hw
       refine WL.op rfl (opW.pickT rfl rfl ?_)
       refine WL.op rfl (opW.assignB rfl ?_)
       refine WL.nil ?_
       refine thenQ_n (hK22 _ _ ?_)
       refine WC.ret ?_
       refine thenQ_r ?_
       refine bodyQ_ret (.tmpB rfl .nil) ?_
       exact ⟨rfl, hS.old⟩
      ·
       have hr4 := hc4
       try simp only [sq1,sq2,sq3,sq4,sq5,sq6,sq7,sq8,sq9,sq0] at hc4
       cases hr4
     | false =>
      refine WL.op rfl (opW.moveB rfl ?_)
      refine WL.gT 84 rfl rfl rfl (WL.op rfl (opW.moveV (v := s1.v) rfl ?_))
      refine WL.gT 84 rfl rfl rfl (WL.op rfl (opW.lenV rfl ((hS.sl (v := s1.v) (xs := ps.map Prod.fst) (by repeat constructor))) ?_))
      refine WL.gT 84 rfl rfl rfl (WL.op rfl (opW.moveI rfl ?_))
      refine WL.gT 84 rfl rfl rfl (WL.op rfl (opW.boolF ((by rw [hm0, hl0, show k1 = fs.length from (FoldIs.whole ((show e = 0 from (by simpa using hcs83)) ▸ hF))]; simp)) (opW.neq rfl rfl ⟨rfl, rfl⟩) ?_))
      refine WL.op rfl (opW.pickT rfl rfl ?_)
      refine WL.nil ?_
      refine thenQ_n (hK21 _ _ ?_)
      refine WC.cond _ rfl (fun hc4 => ?_) (fun hc4 => ?_)
      ·
       have hr4 := hc4
       try simp only [sq1,sq2,sq3,sq4,sq5,sq6,sq7,sq8,sq9,sq0] at hc4
       cases hr4
      ·
       have hr4 := hc4
       try simp only [sq1,sq2,sq3,sq4,sq5,sq6,sq7,sq8,sq9,sq0] at hc4
       obtain rfl : e = 0 := (by simpa using hcs83)
       obtain rfl := hF.whole
       have hzz := hF.zero
       have hda := dAt_ok (xs := fs) hok hoks fs.length
       refine WC.skip ?_
       refine thenQ_n (hK20 _ _ ?_)
       refine WC.seq (fun K23 hK23 => ?_)
       refine WC.region ?_
       refine WL.op rfl (opW.moveI rfl ?_)
       refine WL.op rfl (opW.makeSl (α := SlV) (n := fs.length) (⟨none, 0, 0⟩ : SlV) (by rfl) hS rfl rfl (by omega) (by simp only [maxLen]; omega) ?_)
       intro b96 w _ hS
       refine WL.op rfl (opW.assignV (v := (⟨some ⟨b96, 0, none⟩, fs.length, fs.length⟩ : SlV).v) rfl ?_)
       refine WL.nil ?_
       refine thenQ_n (hK23 _ _ ?_)
       refine WC.seq (fun K24 hK24 => ?_)
       refine WC.seq (fun K25 hK25 => ?_)
       refine WC.region ?_
       refine WL.op rfl (opW.assignI rfl ?_)
       refine WL.nil ?_
       refine thenQ_n (hK25 _ _ ?_)
       refine WC.block ?_
       refine WC.loop (fun m f w => ∃ (i : Nat) (s19 : SlV) (qs : List (SlV × List Account)), Fits [(2, .int .u8 (at_ : Int)), (7, .pointer (some ⟨p, 0, none⟩)), (9, s9.v), (14, .int .i64 (fs.length : Int)), (15, .pointer (some ⟨p2, 0, none⟩)), (16, s1.v), (19, s19.v), (20, .int .i64 (i : Int))] f ∧ St w0 [stE p2 (d.re r2), stE p (dAt d fs fs.length), ownE s9.v 56 (fs.map TX.R), ownE s1.v 59 (ps.map Prod.fst), ochE ps, ownE s19.v 69 (qs.map Prod.fst), accE qs] w ∧ qs.length = fs.length ∧ (∀ (j : Nat) (hj : j < qs.length) (h2 : j < fs.length), j < i → qs[j].2 = fs[j].l d) ∧ i ≤ fs.length ∧ m = fs.length - i) (fs.length) ?_ ?_
       ·
        have hA := hS.accRep fs.length
        exact ⟨0, ⟨some ⟨b96, 0, none⟩, fs.length, fs.length⟩, List.replicate fs.length (⟨none, 0, 0⟩, []), ⟨rfl, rfl, rfl, rfl, rfl, rfl, rfl, rfl, trivial⟩, (by rw [List.map_replicate]; have hS := hA; exact (show St w0 [stE p2 (d.re r2), stE p (dAt d fs fs.length), ownE s9.v 56 (fs.map TX.R), ownE s1.v 59 (ps.map Prod.fst), ochE ps, ownE (.slice (some ⟨b96, 0, none⟩) fs.length fs.length) 69 (List.replicate fs.length (⟨none, 0, 0⟩ : SlV)), accE (List.replicate fs.length (⟨none, 0, 0⟩, []))] _ from ((((((((hS.pick (e := accE (List.replicate fs.length (⟨none, 0, 0⟩, []))) (by repeat constructor)).pick (e := ownE (.slice (some ⟨b96, 0, none⟩) fs.length fs.length) 69 (List.replicate fs.length (⟨none, 0, 0⟩ : SlV))) (by repeat constructor)).pick (e := ochE ps) (by repeat constructor)).pick (e := ownE s1.v 59 (ps.map Prod.fst)) (by repeat constructor)).pick (e := ownE s9.v 56 (fs.map TX.R)) (by repeat constructor)).pick (e := stE p (dAt d fs fs.length)) (by repeat constructor)).pick (e := stE p2 (d.re r2)) (by repeat constructor)).sub (by repeat with_reducible first | exact su1 _ | exact su2 _ | refine su3 ?_ | refine su4 ?_)))), List.length_replicate .., (fun j _ _ h => absurd h (Nat.not_lt_zero _)), Nat.zero_le _, rfl⟩
       ·
        rintro m f w ⟨i, s19, qs, hfit, hS, hql, hqs, hi0, hm⟩
        refine WC.fits _ hfit (fun g => ?_)
        clear hfit
        refine WC.seq (fun K26 hK26 => ?_)
        refine WC.seq (fun K27 hK27 => ?_)
        refine WC.region ?_
        refine WL.op rfl (opW.moveI rfl ?_)
        refine WL.op rfl (opW.moveI rfl ?_)
        refine WL.op rfl (opW.lss rfl rfl ?_)
        refine WL.nil ?_
        refine thenQ_n (hK27 _ _ ?_)
        refine WC.cond _ rfl (fun hc5 => ?_) (fun hc5 => ?_)
        ·
         have hr5 := hc5
         try simp only [sq1,sq2,sq3,sq4,sq5,sq6,sq7,sq8,sq9,sq0] at hc5
         have hix : i < fs.length := by omega
         have him : i < (fs.map TX.R).length := by omega
         have hiq : i < (qs.map Prod.fst).length := by rw [List.length_map]; omega
         refine WC.skip ?_
         refine thenQ_n (hK26 _ _ ?_)
         refine WC.seq (fun K28 hK28 => ?_)
         refine WC.block ?_
         refine WC.seq (fun K29 hK29 => ?_)
         refine WC.region ?_
         have hP := hS.pick (e := stE p2 (d.re r2)) (by repeat constructor)
         have hfi := hfr.ok fs[i] (List.getElem_mem hix)
         have hpi := hfr.pay fs[i] (List.getElem_mem hix)
         refine WL.op rfl (opW.moveV (v := .pointer (some ⟨p2, 0, none⟩)) rfl ?_)
         refine WL.op rfl (opW.moveV (v := s9.v) rfl ?_)
         refine WL.op rfl (opW.moveI rfl ?_)
         refine WL.op rfl (opW.idxV rfl ((hS.sl (v := s9.v) (xs := fs.map TX.R) (by repeat constructor))) rfl (by omega) ?_)
         refine WL.op rfl (opW.loadV rfl ((((hS.sl (v := s9.v) (xs := fs.map TX.R) (by repeat constructor)).isPt him).ldA (Enc.size_eq _)).val (by rw [List.getElem_map])) ?_)
         refine WL.op rfl (opW.call (load_tx w0 _ _ p2 (d.re r2) fs[i] hok2 hoks2 (fun w hS => hfi.bel hS.old) hP) rfl ?_)
         rintro _ w ⟨sl, e1, ll, rfl, hcase, hS⟩
         obtain ⟨_, rfl, rfl⟩ := hcase.resolve_left (fun h => absurd (h.1.symm.trans hpi) (by decide))
         replace hS : St w0 (ownE sl.v 64 (fs[i].l d) :: _) _ := hS
         refine WL.op rfl (opW.moveV (v := .tuple #[sl.v, .int .i64 0]) rfl ?_)
         refine WL.op rfl (opW.extract rfl rfl ?_)
         refine WL.op rfl (opW.extract rfl rfl ?_)
         refine WL.op rfl (opW.assignV (v := sl.v) rfl ?_)
         refine WL.op rfl (opW.assignI rfl ?_)
         refine WL.nil ?_
         refine thenQ_n (hK29 _ _ ?_)
         refine WC.seq (fun K30 hK30 => ?_)
         refine WC.seq (fun K31 hK31 => ?_)
         refine WC.region ?_
         refine WL.op rfl (opW.moveI rfl ?_)
         refine WL.op rfl (opW.boolF (rfl) (opW.neq rfl rfl ⟨rfl, rfl⟩) ?_)
         refine WL.nil ?_
         refine thenQ_n (hK31 _ _ ?_)
         refine WC.cond _ rfl (fun hc6 => ?_) (fun hc6 => ?_)
         ·
          have hr6 := hc6
          try simp only [sq1,sq2,sq3,sq4,sq5,sq6,sq7,sq8,sq9,sq0] at hc6
          cases hr6
         ·
          have hr6 := hc6
          try simp only [sq1,sq2,sq3,sq4,sq5,sq6,sq7,sq8,sq9,sq0] at hc6
          refine WC.skip ?_
          refine thenQ_n (hK30 _ _ ?_)
          refine WC.region ?_
          refine WL.op rfl (opW.moveV (v := s19.v) rfl ?_)
          refine WL.op rfl (opW.moveI rfl ?_)
          refine WL.op rfl (opW.moveV (v := sl.v) rfl ?_)
          refine WL.op rfl (opW.idxV rfl ((hS.sl (v := s19.v) (xs := qs.map Prod.fst) (by repeat constructor))) rfl (by omega) ?_)
          refine WL.op0 (opW.storeOwn (v := s19.v) (u := sl.v) (sz := 1) (xs := qs.map Prod.fst) (i := i) (off := 0) (y' := sl) hS (by repeat constructor) hiq (ptrAdd_zero s19.v i (Enc.sz SlV)).symm rfl (by rfl) (by decide) (Enc.one (α := SlV) sl) (spl_all (by rfl)) ?_)
          intro w hS; replace hS := hS _ (by repeat constructor)
          refine WL.nil ?_
          refine blockQ_n ?_
          refine thenQ_n (hK28 _ _ ?_)
          refine WC.region ?_
          refine WL.op rfl (opW.moveI rfl ?_)
          refine WL.op rfl (opW.add rfl rfl (wrap_i64 (by omega)) ?_)
          refine WL.op rfl (opW.assignI rfl ?_)
          refine WL.nil ?_
          refine thenQ_n ?_
          replace hS := ((hS.pick (e := ownE sl.v 64 (fs[i].l d)) (by repeat constructor)).pick (e := accE qs) (by repeat constructor)).accSet (k := i)
          exact ⟨fs.length - (i + 1), by omega, i + 1, s19, qs.set i (sl, fs[i].l d), ⟨rfl, rfl, rfl, rfl, rfl, rfl, rfl, congrArg (Value.int .i64) (by omega), trivial⟩, (by rw [List.map_set]; exact ((((((((hS.pick (e := accE (qs.set i (sl, fs[i].l d))) (by repeat constructor)).pick (e := ownE s19.v 69 ((qs.map Prod.fst).set i sl)) (by repeat constructor)).pick (e := ochE ps) (by repeat constructor)).pick (e := ownE s1.v 59 (ps.map Prod.fst)) (by repeat constructor)).pick (e := ownE s9.v 56 (fs.map TX.R)) (by repeat constructor)).pick (e := stE p (dAt d fs fs.length)) (by repeat constructor)).pick (e := stE p2 (d.re r2)) (by repeat constructor)).sub (by repeat with_reducible first | exact su1 _ | exact su2 _ | refine su3 ?_ | refine su4 ?_))), (by rw [List.length_set]; exact hql), (fun j hj h2 h3 => by
           rw [List.getElem_set]
           split
           ·next e => subst e; rfl
           ·exact hqs j (by rw [List.length_set] at hj; exact hj) h2 (by omega)), by omega, rfl⟩
        ·
         have hr5 := hc5
         try simp only [sq1,sq2,sq3,sq4,sq5,sq6,sq7,sq8,sq9,sq0] at hc5
         obtain rfl : i = fs.length := by omega
         refine WC.exit ?_
         refine thenQ_e ?_
         refine thenQ_e ?_
         refine blockQ_hit ?_
         refine thenQ_n (hK24 _ _ ?_)
         refine WC.seq (fun K32 hK32 => ?_)
         refine WC.region ?_
         refine WL.op rfl (opW.moveI rfl ?_)
         refine WL.op rfl (opW.makeSl (α := Outcome) (n := fs.length) oz (by first | rfl | (rw [zOut]; rfl)) hS rfl rfl (by omega) (by simp only [maxLen]; omega) ?_)
         intro b118 w _ hS
         refine WL.op rfl (opW.assignV (v := (⟨some ⟨b118, 0, none⟩, fs.length, fs.length⟩ : SlV).v) rfl ?_)
         refine WL.nil ?_
         refine thenQ_n (hK32 _ _ ?_)
         refine WC.seq (fun K33 hK33 => ?_)
         refine WC.seq (fun K34 hK34 => ?_)
         refine WC.region ?_
         refine WL.op rfl (opW.assignI rfl ?_)
         refine WL.nil ?_
         refine thenQ_n (hK34 _ _ ?_)
         refine WC.block ?_
         refine WC.loop (fun m f w => ∃ (i : Nat) (s23 : SlV) (rs : List (Outcome × List Holding)), Fits [(2, .int .u8 (at_ : Int)), (7, .pointer (some ⟨p, 0, none⟩)), (9, s9.v), (14, .int .i64 (fs.length : Int)), (15, .pointer (some ⟨p2, 0, none⟩)), (16, s1.v), (19, s19.v), (23, s23.v), (24, .int .i64 (i : Int))] f ∧ St w0 [stE p2 (d.re r2), stE p (dAt d fs fs.length), ownE s9.v 56 (fs.map TX.R), ownE s1.v 59 (ps.map Prod.fst), ochE ps, ownE s19.v 69 (qs.map Prod.fst), accE qs, ownE s23.v 59 (rs.map Prod.fst), ochE rs] w ∧ rs.length = fs.length ∧ (∀ (j : Nat) (hj : j < rs.length) (h2 : j < fs.length), RotJ fs.length at_ i j → OcIs d fs[j] rs[j].1 rs[j].2) ∧ i ≤ fs.length ∧ m = fs.length - i) (fs.length) ?_ ?_
         ·
          have hA := hS.ochRep fs.length
          exact ⟨0, ⟨some ⟨b118, 0, none⟩, fs.length, fs.length⟩, List.replicate fs.length (oz, []), ⟨rfl, rfl, rfl, rfl, rfl, rfl, rfl, rfl, rfl, trivial⟩, (by rw [List.map_replicate]; have hS := hA; exact (show St w0 [stE p2 (d.re r2), stE p (dAt d fs fs.length), ownE s9.v 56 (fs.map TX.R), ownE s1.v 59 (ps.map Prod.fst), ochE ps, ownE s19.v 69 (qs.map Prod.fst), accE qs, ownE (.slice (some ⟨b118, 0, none⟩) fs.length fs.length) 59 (List.replicate fs.length oz), ochE (List.replicate fs.length (oz, []))] _ from ((((((((((hS.pick (e := ochE (List.replicate fs.length (oz, []))) (by repeat constructor)).pick (e := ownE (.slice (some ⟨b118, 0, none⟩) fs.length fs.length) 59 (List.replicate fs.length oz)) (by repeat constructor)).pick (e := accE qs) (by repeat constructor)).pick (e := ownE s19.v 69 (qs.map Prod.fst)) (by repeat constructor)).pick (e := ochE ps) (by repeat constructor)).pick (e := ownE s1.v 59 (ps.map Prod.fst)) (by repeat constructor)).pick (e := ownE s9.v 56 (fs.map TX.R)) (by repeat constructor)).pick (e := stE p (dAt d fs fs.length)) (by repeat constructor)).pick (e := stE p2 (d.re r2)) (by repeat constructor)).sub (by repeat with_reducible first | exact su1 _ | exact su2 _ | refine su3 ?_ | refine su4 ?_)))), List.length_replicate .., (fun j _ _ h => by obtain ⟨_, h, _⟩ := h; exact absurd h (Nat.not_lt_zero _)), Nat.zero_le _, rfl⟩
         ·
          rintro m f w ⟨i, s23, rs, hfit, hS, hrl2, hrs, hi0, hm⟩
          refine WC.fits _ hfit (fun g => ?_)
          clear hfit
          refine WC.seq (fun K35 hK35 => ?_)
          refine WC.seq (fun K36 hK36 => ?_)
          refine WC.region ?_
          refine WL.op rfl (opW.moveI rfl ?_)
          refine WL.op rfl (opW.moveI rfl ?_)
          refine WL.op rfl (opW.lss rfl rfl ?_)
          refine WL.nil ?_
          refine thenQ_n (hK36 _ _ ?_)
          refine WC.cond _ rfl (fun hc7 => ?_) (fun hc7 => ?_)
          ·
           have hr7 := hc7
           try simp only [sq1,sq2,sq3,sq4,sq5,sq6,sq7,sq8,sq9,sq0] at hc7
           have hix : i < fs.length := by omega
           refine WC.skip ?_
           refine thenQ_n (hK35 _ _ ?_)
           refine WC.seq (fun K37 hK37 => ?_)
           refine WC.block ?_
           refine WC.seq (fun K38 hK38 => ?_)
           refine WC.region ?_
           refine WL.op rfl (opW.moveI rfl ?_)
           refine WL.op rfl (opW.moveI rfl ?_)
           refine WL.op rfl (opW.conv rfl (wrap_i64 (by omega)) ?_)
           refine WL.op rfl (opW.add rfl rfl (wrap_i64 (by omega)) ?_)
           refine WL.op rfl (opW.moveI rfl ?_)
           refine WL.op rfl (opW.rem rfl rfl (by omega) ((show Int.tmod ((i : Int) + (at_ : Int)) (fs.length : Int) = ((((i + at_) % fs.length) : Nat) : Int) from by rw [← Int.natCast_add, ← Int.ofNat_tmod])) ?_)
           refine WL.op rfl (opW.assignI rfl ?_)
           have hkl : ((i + at_) % fs.length) < fs.length := Nat.mod_lt _ hn0
           have hkm2 : ((i + at_) % fs.length) < (fs.map TX.R).length := by omega
           have hkq : ((i + at_) % fs.length) < (qs.map Prod.fst).length := by rw [List.length_map]; omega
           have hkq2 : ((i + at_) % fs.length) < qs.length := by omega
           have hkr : ((i + at_) % fs.length) < (rs.map Prod.fst).length := by rw [List.length_map]; omega
           have hfk2 := hfr.ok fs[((i + at_) % fs.length)] (List.getElem_mem hkl)
           have hzk : errF d fs[((i + at_) % fs.length)] = 0 := (errF_load (load_apart hok hoks hfr.no hkl)).symm.trans (hzz _ hkl)
           obtain ⟨hpk, hbk⟩ := errF_zero hzk
           have hqk := hqs ((i + at_) % fs.length) hkq2 hkl hkl
           refine WL.nil ?_
           refine thenQ_n (hK38 _ _ ?_)
           refine WC.mid (fun f w => ∃ (b26 : Nat) (o : Outcome), Fits [(2, .int .u8 (at_ : Int)), (7, .pointer (some ⟨p, 0, none⟩)), (9, s9.v), (14, .int .i64 (fs.length : Int)), (15, .pointer (some ⟨p2, 0, none⟩)), (16, s1.v), (19, s19.v), (23, s23.v), (24, .int .i64 (i : Int)), (25, .int .i64 ((((i + at_) % fs.length) : Nat) : Int)), (26, .pointer (some ⟨b26, 0, none⟩)), (27, .int .i64 0)] f ∧ St w0 [blkE b26 (Enc.enc o) 59, ownE o.changed.v 66 (chF d fs[((i + at_) % fs.length)]), stE p2 (d.re r2), stE p (dAt d fs fs.length), ownE s9.v 56 (fs.map TX.R), ownE s1.v 59 (ps.map Prod.fst), ochE ps, ownE s19.v 69 (qs.map Prod.fst), accE qs, ownE s23.v 59 (rs.map Prod.fst), ochE rs] w ∧ OcIs d fs[((i + at_) % fs.length)] o (chF d fs[((i + at_) % fs.length)])) ?_ ?_
           ·
            refine WC.draw 15 (.look 0 (.look 1 (.look 2 (.look 3 (.look 4 (.look 5 (.look 6 (.look 7 (.fork 8 12 (.look 9 (.look 10 (.look 11 (.one 12 (.one 13 (.look 14 .nil)))))) (.one 8 (.look 9 (.look 10 (.look 11 (.one 13 (.look 14 .nil))))))))))))))) (by kernel_rfl) (fun _ _ _ h => h) (fun w1 hw1 => ?_)
            replace hS := hS.bel hw1
            have hS1 := hS
            have hT := St.start w1
            refine ML.look rfl rfl rfl (fun w hw => (by have hS := hS1.bel hw; exact opW.moveV (v := s9.v) rfl ⟨rfl, rfl⟩)) ?_
            refine ML.look rfl rfl rfl (fun w hw => (by have hS := hS1.bel hw; exact opW.moveI rfl ⟨rfl, rfl⟩)) ?_
            refine ML.look rfl rfl rfl (fun w hw => (by have hS := hS1.bel hw; exact opW.idxV rfl ((hS.sl (v := s9.v) (xs := fs.map TX.R) (by repeat constructor))) rfl (by omega) ⟨rfl, rfl⟩)) ?_
            refine ML.look rfl rfl rfl (fun w hw => (by have hS := hS1.bel hw; exact opW.loadV rfl ((((hS.sl (v := s9.v) (xs := fs.map TX.R) (by repeat constructor)).isPt hkm2).ldA (Enc.size_eq _)).val (by rw [List.getElem_map])) ⟨rfl, rfl⟩)) ?_
            refine ML.look rfl rfl rfl (fun w hw => (by have hS := hS1.bel hw; exact opW.moveV (v := s19.v) rfl ⟨rfl, rfl⟩)) ?_
            refine ML.look rfl rfl rfl (fun w hw => (by have hS := hS1.bel hw; exact opW.moveI rfl ⟨rfl, rfl⟩)) ?_
            refine ML.look rfl rfl rfl (fun w hw => (by have hS := hS1.bel hw; exact opW.idxV rfl ((hS.sl (v := s19.v) (xs := qs.map Prod.fst) (by repeat constructor))) rfl (by omega) ⟨rfl, rfl⟩)) ?_
            refine ML.look rfl rfl rfl (fun w hw => (by have hS := hS1.bel hw; exact opW.loadV rfl (((hS.sl (v := s19.v) (xs := qs.map Prod.fst) (by repeat constructor)).isPt hkq).ld (by rw [List.getElem_map]; rfl)) ⟨rfl, rfl⟩)) ?_
            refine ML.fork rfl rfl rfl rfl ?_ ?_ 
            ·refine opW.call (run_any _ fs[((i + at_) % fs.length)].R qs[((i + at_) % fs.length)].1 (fs[((i + at_) % fs.length)].l d) fs[((i + at_) % fs.length)].r fs[((i + at_) % fs.length)].ins fs[((i + at_) % fs.length)].qs (hg.bel hS.old) (hqk ▸ hS.acc (qs := qs) (by repeat constructor) hkq2) (hfk2.ro.bel hS.old) (hfk2.i.bel hS.old) hfk2.ql (fun j h h2 => (hfk2.q j h h2).bel hS.old) hfk2.bu (by rw [TX.l_len]; exact hfk2.rb) hfk2.rb (TX.l_ok hoks)) rfl ?_
             rintro _ w ⟨o, e2, ch, rfl, hn139, hO, hw⟩; replace hT := hT.newOwn hw hn139.1 hn139.2
             refine ⟨hT.old, ?_⟩
             have hS := hS1.merge hT
             try simp only [List.cons_append, List.nil_append] at hS
             refine ML.look rfl rfl rfl (fun w hw => (by have hS := hS1.bel hw; exact opW.moveV (v := .tuple #[.agg (Enc.enc o), .int .i64 e2]) rfl ⟨rfl, rfl⟩)) ?_
             refine ML.look rfl rfl rfl (fun w hw => (by have hS := hS1.bel hw; exact opW.extract rfl rfl ⟨rfl, rfl⟩)) ?_
             refine ML.look rfl rfl rfl (fun w hw => (by have hS := hS1.bel hw; exact opW.extract rfl rfl ⟨rfl, rfl⟩)) ?_
             refine ML.one rfl rfl rfl (opW.allocA hT ?_)
             intro b26 w hw hT
             refine ⟨hT.old, ?_⟩
             have hS := hS1.merge hT
             try simp only [List.cons_append, List.nil_append] at hS
             refine ML.one0 rfl rfl (opW.storeE hT rfl rfl (by repeat constructor) (by first | rfl | exact Enc.size_eq _) ?_)
             intro w hT; replace hT := hT _ (by repeat constructor)
             refine ⟨hT.old, ?_⟩
             have hS := hS1.merge hT
             try simp only [List.cons_append, List.nil_append] at hS
             refine ML.look rfl rfl rfl (fun w hw => (by have hS := hS1.bel hw; exact opW.assignI rfl ⟨rfl, rfl⟩)) ?_
             refine ML.nil ?_
             refine thenQ_n ?_
             rcases hO with ⟨_, hb, _⟩ | ⟨rfl, _, s, hos, hch⟩
             ·exact absurd (hbk.symm.trans hb) (by decide)
             have hch2 : ch = chF d fs[((i + at_) % fs.length)] := hch
             clear hch
             subst hch2
             exact ⟨b26, o, ⟨rfl, rfl, rfl, rfl, rfl, rfl, rfl, rfl, rfl, rfl, rfl, rfl, trivial⟩, ((((((((((((hS.pick (e := ochE rs) (by repeat constructor)).pick (e := ownE s23.v 59 (rs.map Prod.fst)) (by repeat constructor)).pick (e := accE qs) (by repeat constructor)).pick (e := ownE s19.v 69 (qs.map Prod.fst)) (by repeat constructor)).pick (e := ochE ps) (by repeat constructor)).pick (e := ownE s1.v 59 (ps.map Prod.fst)) (by repeat constructor)).pick (e := ownE s9.v 56 (fs.map TX.R)) (by repeat constructor)).pick (e := stE p (dAt d fs fs.length)) (by repeat constructor)).pick (e := stE p2 (d.re r2)) (by repeat constructor)).pick (e := ownE o.changed.v 66 (chF d fs[((i + at_) % fs.length)])) (by repeat constructor)).pick (e := blkE b26 (Enc.enc o) 59) (by repeat constructor)).sub (by repeat with_reducible first | exact su1 _ | exact su2 _ | refine su3 ?_ | refine su4 ?_)), .inl ⟨hzk, rfl, s, hos⟩⟩
            ·refine opW.allocA hT ?_
             intro b26 w hw hT
             refine ⟨hT.old, ?_⟩
             have hS := hS1.merge hT
             try simp only [List.cons_append, List.nil_append] at hS
             refine ML.one rfl rfl rfl (opW.call (run_any _ fs[((i + at_) % fs.length)].R qs[((i + at_) % fs.length)].1 (fs[((i + at_) % fs.length)].l d) fs[((i + at_) % fs.length)].r fs[((i + at_) % fs.length)].ins fs[((i + at_) % fs.length)].qs (hg.bel hS.old) (hqk ▸ hS.acc (qs := qs) (by repeat constructor) hkq2) (hfk2.ro.bel hS.old) (hfk2.i.bel hS.old) hfk2.ql (fun j h h2 => (hfk2.q j h h2).bel hS.old) hfk2.bu (by rw [TX.l_len]; exact hfk2.rb) hfk2.rb (TX.l_ok hoks)) rfl ?_)
             rintro _ w ⟨o, e2, ch, rfl, hn139, hO, hw⟩; replace hT := hT.newOwn hw hn139.1 hn139.2
             refine ⟨hT.old, ?_⟩
             have hS := hS1.merge hT
             try simp only [List.cons_append, List.nil_append] at hS
             refine ML.look rfl rfl rfl (fun w hw => (by have hS := hS1.bel hw; exact opW.moveV (v := .tuple #[.agg (Enc.enc o), .int .i64 e2]) rfl ⟨rfl, rfl⟩)) ?_
             refine ML.look rfl rfl rfl (fun w hw => (by have hS := hS1.bel hw; exact opW.extract rfl rfl ⟨rfl, rfl⟩)) ?_
             refine ML.look rfl rfl rfl (fun w hw => (by have hS := hS1.bel hw; exact opW.extract rfl rfl ⟨rfl, rfl⟩)) ?_
             refine ML.one0 rfl rfl (opW.storeE hT rfl rfl (by repeat constructor) (by first | rfl | exact Enc.size_eq _) ?_)
             intro w hT; replace hT := hT _ (by repeat constructor)
             refine ⟨hT.old, ?_⟩
             have hS := hS1.merge hT
             try simp only [List.cons_append, List.nil_append] at hS
             refine ML.look rfl rfl rfl (fun w hw => (by have hS := hS1.bel hw; exact opW.assignI rfl ⟨rfl, rfl⟩)) ?_
             refine ML.nil ?_
             refine thenQ_n ?_
             rcases hO with ⟨_, hb, _⟩ | ⟨rfl, _, s, hos, hch⟩
             ·exact absurd (hbk.symm.trans hb) (by decide)
             have hch2 : ch = chF d fs[((i + at_) % fs.length)] := hch
             clear hch
             subst hch2
             exact ⟨b26, o, ⟨rfl, rfl, rfl, rfl, rfl, rfl, rfl, rfl, rfl, rfl, rfl, rfl, trivial⟩, ((((((((((((hS.pick (e := ochE rs) (by repeat constructor)).pick (e := ownE s23.v 59 (rs.map Prod.fst)) (by repeat constructor)).pick (e := accE qs) (by repeat constructor)).pick (e := ownE s19.v 69 (qs.map Prod.fst)) (by repeat constructor)).pick (e := ochE ps) (by repeat constructor)).pick (e := ownE s1.v 59 (ps.map Prod.fst)) (by repeat constructor)).pick (e := ownE s9.v 56 (fs.map TX.R)) (by repeat constructor)).pick (e := stE p (dAt d fs fs.length)) (by repeat constructor)).pick (e := stE p2 (d.re r2)) (by repeat constructor)).pick (e := ownE o.changed.v 66 (chF d fs[((i + at_) % fs.length)])) (by repeat constructor)).pick (e := blkE b26 (Enc.enc o) 59) (by repeat constructor)).sub (by repeat with_reducible first | exact su1 _ | exact su2 _ | refine su3 ?_ | refine su4 ?_)), .inl ⟨hzk, rfl, s, hos⟩⟩
           ·
            rintro f w ⟨b26, o, hfit, hS, hoc⟩
            refine WC.fits _ hfit (fun g => ?_)
            clear hfit
            refine WC.seq (fun K39 hK39 => ?_)
            refine WC.seq (fun K40 hK40 => ?_)
            refine WC.region ?_
            refine WL.op rfl (opW.moveI rfl ?_)
            refine WL.op rfl (opW.boolF (rfl) (opW.neq rfl rfl ⟨rfl, rfl⟩) ?_)
            refine WL.nil ?_
            refine thenQ_n (hK40 _ _ ?_)
            refine WC.cond _ rfl (fun hc8 => ?_) (fun hc8 => ?_)
            ·
             have hr8 := hc8
             try simp only [sq1,sq2,sq3,sq4,sq5,sq6,sq7,sq8,sq9,sq0] at hc8
             cases hr8
            ·
             have hr8 := hc8
             try simp only [sq1,sq2,sq3,sq4,sq5,sq6,sq7,sq8,sq9,sq0] at hc8
             refine WC.skip ?_
             refine thenQ_n (hK39 _ _ ?_)
             refine WC.region ?_
             refine WL.op rfl (opW.moveV (v := s23.v) rfl ?_)
             refine WL.op rfl (opW.moveI rfl ?_)
             refine WL.op rfl (opW.loadV rfl (hS.ldA (b := b26) (cs := Enc.enc o) (by repeat constructor) (Enc.size_eq o)) ?_)
             refine WL.op rfl (opW.idxV rfl ((hS.sl (v := s23.v) (xs := rs.map Prod.fst) (by repeat constructor))) rfl (by omega) ?_)
             refine WL.op0 (opW.storeOwn (v := s23.v) (u := .agg (Enc.enc o)) (sz := Enc.sz Outcome) (xs := rs.map Prod.fst) (i := ((i + at_) % fs.length)) (off := 0) (y' := o) hS (by repeat constructor) hkr (ptrAdd_zero s23.v ((i + at_) % fs.length) (Enc.sz Outcome)).symm rfl (by simp only [Value.cells]; exact Enc.size_eq o) (Nat.le_of_eq (Nat.zero_add (Enc.sz Outcome))) (by simp only [Value.cells]; exact Enc.one o) (by simp only [Value.cells]; exact spl_all ((Enc.size_eq o).trans (Enc.size_eq (rs.map Prod.fst)[((i + at_) % fs.length)]).symm)) ?_)
             intro w hS; replace hS := hS _ (by repeat constructor)
             refine WL.nil ?_
             refine blockQ_n ?_
             refine thenQ_n (hK37 _ _ ?_)
             refine WC.region ?_
             refine WL.op rfl (opW.moveI rfl ?_)
             refine WL.op rfl (opW.add rfl rfl (wrap_i64 (by omega)) ?_)
             refine WL.op rfl (opW.assignI rfl ?_)
             refine WL.nil ?_
             refine thenQ_n ?_
             replace hS := ((hS.pick (e := ownE o.changed.v 66 (chF d fs[((i + at_) % fs.length)])) (by repeat constructor)).pick (e := ochE rs) (by repeat constructor)).ochSet (k := ((i + at_) % fs.length))
             exact ⟨fs.length - (i + 1), by omega, i + 1, s23, rs.set ((i + at_) % fs.length) (o, chF d fs[((i + at_) % fs.length)]), ⟨rfl, rfl, rfl, rfl, rfl, rfl, rfl, rfl, congrArg (Value.int .i64) (by omega), trivial⟩, (by rw [List.map_set]; exact ((((((((((hS.pick (e := ochE (rs.set ((i + at_) % fs.length) (o, chF d fs[((i + at_) % fs.length)]))) (by repeat constructor)).pick (e := ownE s23.v 59 ((rs.map Prod.fst).set ((i + at_) % fs.length) o)) (by repeat constructor)).pick (e := accE qs) (by repeat constructor)).pick (e := ownE s19.v 69 (qs.map Prod.fst)) (by repeat constructor)).pick (e := ochE ps) (by repeat constructor)).pick (e := ownE s1.v 59 (ps.map Prod.fst)) (by repeat constructor)).pick (e := ownE s9.v 56 (fs.map TX.R)) (by repeat constructor)).pick (e := stE p (dAt d fs fs.length)) (by repeat constructor)).pick (e := stE p2 (d.re r2)) (by repeat constructor)).sub (by repeat with_reducible first | exact su1 _ | exact su2 _ | refine su3 ?_ | refine su4 ?_))), (by rw [List.length_set]; exact hrl2), (fun j hj h2 h3 => by
              rw [List.getElem_set]
              split
              ·next e => subst e; exact hoc
              ·next e => exact hrs j (by rw [List.length_set] at hj; exact hj) h2 (((RotJ.step j).1 h3).resolve_right (fun h => e h.symm))), by omega, rfl⟩
          ·
           have hr7 := hc7
           try simp only [sq1,sq2,sq3,sq4,sq5,sq6,sq7,sq8,sq9,sq0] at hc7
           obtain rfl : i = fs.length := by omega
           have hrr : ∀ (j : Nat) (hj : j < rs.length) (h2 : j < fs.length), OcIs d fs[j] rs[j].1 rs[j].2 := fun j hj h2 => hrs j hj h2 (RotJ.all h2)
           have hee : ∀ (j : Nat) (hj : j < fs.length), errF d fs[j] = 0 := fun j hj => (errF_load (load_apart hok hoks hfr.no hj)).symm.trans (hzz j hj)
           refine WC.exit ?_
           refine thenQ_e ?_
           refine thenQ_e ?_
           refine blockQ_hit ?_
           refine thenQ_n (hK33 _ _ ?_)
           refine WC.seq (fun K41 hK41 => ?_)
           refine WC.seq (fun K42 hK42 => ?_)
           refine WC.region ?_
           refine WL.op rfl (opW.assignI rfl ?_)
           refine WL.nil ?_
           refine thenQ_n (hK42 _ _ ?_)
           refine WC.block ?_
           refine WC.loop (fun m f w => ∃ (i : Nat) (c : StD), Fits [(2, .int .u8 (at_ : Int)), (7, .pointer (some ⟨p, 0, none⟩)), (14, .int .i64 (fs.length : Int)), (15, .pointer (some ⟨p2, 0, none⟩)), (16, s1.v), (23, s23.v), (28, .int .i64 (i : Int))] f ∧ St w0 [stE p2 c, stE p (dAt d fs fs.length), ownE s1.v 59 (ps.map Prod.fst), ochE ps, ownE s23.v 59 (rs.map Prod.fst), ochE rs] w ∧ ComIs d fs c (RevJ fs.length at_ i) ∧ i ≤ fs.length ∧ m = fs.length - i) (fs.length) ?_ ?_
           ·
            exact ⟨0, (d.re r2), ⟨rfl, rfl, rfl, rfl, rfl, rfl, rfl, trivial⟩, (((((((hS.pick (e := ochE rs) (by repeat constructor)).pick (e := ownE s23.v 59 (rs.map Prod.fst)) (by repeat constructor)).pick (e := ochE ps) (by repeat constructor)).pick (e := ownE s1.v 59 (ps.map Prod.fst)) (by repeat constructor)).pick (e := stE p (dAt d fs fs.length)) (by repeat constructor)).pick (e := stE p2 (d.re r2)) (by repeat constructor)).sub (by repeat with_reducible first | exact su1 _ | exact su2 _ | refine su3 ?_ | refine su4 ?_)), ⟨hok2, (fun _ _ _ h => by obtain ⟨_, h, _⟩ := h; exact absurd h (Nat.not_lt_zero _)), fun _ _ => rfl⟩, Nat.zero_le _, rfl⟩
           ·
            rintro m f w ⟨i, c, hfit, hS, hcm, hi0, hm⟩
            refine WC.fits _ hfit (fun g => ?_)
            clear hfit
            refine WC.seq (fun K43 hK43 => ?_)
            refine WC.seq (fun K44 hK44 => ?_)
            refine WC.region ?_
            refine WL.op rfl (opW.moveI rfl ?_)
            refine WL.op rfl (opW.moveI rfl ?_)
            refine WL.op rfl (opW.lss rfl rfl ?_)
            refine WL.nil ?_
            refine thenQ_n (hK44 _ _ ?_)
            refine WC.cond _ rfl (fun hc9 => ?_) (fun hc9 => ?_)
            ·
             have hr9 := hc9
             try simp only [sq1,sq2,sq3,sq4,sq5,sq6,sq7,sq8,sq9,sq0] at hc9
             have hix : i < fs.length := by omega
             refine WC.skip ?_
             refine thenQ_n (hK43 _ _ ?_)
             refine WC.seq (fun K45 hK45 => ?_)
             refine WC.block ?_
             refine WC.seq (fun K46 hK46 => ?_)
             refine WC.region ?_
             have hkl : ((fs.length - 1 - i + at_) % fs.length) < fs.length := Nat.mod_lt _ hn0
             have hkr : ((fs.length - 1 - i + at_) % fs.length) < (rs.map Prod.fst).length := by rw [List.length_map]; omega
             have hkr2 : ((fs.length - 1 - i + at_) % fs.length) < rs.length := by omega
             have hork := hrr ((fs.length - 1 - i + at_) % fs.length) hkr2 hkl
             have hchk : rs[((fs.length - 1 - i + at_) % fs.length)].2 = chF d fs[((fs.length - 1 - i + at_) % fs.length)] := (hork.resolve_right (fun h => h.1 (hee _ hkl))).2.1
             have hclen : (chF d fs[((fs.length - 1 - i + at_) % fs.length)]).length ≤ 100000 := by have := chgF_len fs[((fs.length - 1 - i + at_) % fs.length)].r (accF fs[((fs.length - 1 - i + at_) % fs.length)].R fs[((fs.length - 1 - i + at_) % fs.length)].r fs[((fs.length - 1 - i + at_) % fs.length)].qs (fs[((fs.length - 1 - i + at_) % fs.length)].l d)); have := (hfr.ok fs[((fs.length - 1 - i + at_) % fs.length)] (List.getElem_mem hkl)).rb; unfold chF; omega
             have hP := hS.pick (e := stE p2 c) (by repeat constructor)
             refine WL.op rfl (opW.moveV (v := .pointer (some ⟨p2, 0, none⟩)) rfl ?_)
             refine WL.op rfl (opW.moveV (v := s23.v) rfl ?_)
             refine WL.op rfl (opW.moveI rfl ?_)
             refine WL.op rfl (opW.sub rfl rfl (wrap_i64 (by omega)) ?_)
             refine WL.op rfl (opW.moveI rfl ?_)
             refine WL.op rfl (opW.sub rfl rfl (wrap_i64 (by omega)) ?_)
             refine WL.op rfl (opW.moveI rfl ?_)
             refine WL.op rfl (opW.conv rfl (wrap_i64 (by omega)) ?_)
             refine WL.op rfl (opW.add rfl rfl (wrap_i64 (by omega)) ?_)
             refine WL.op rfl (opW.moveI rfl ?_)
             refine WL.op rfl (opW.rem rfl rfl (by omega) ((show Int.tmod ((fs.length : Int) - 1 - (i : Int) + (at_ : Int)) (fs.length : Int) = ((((fs.length - 1 - i + at_) % fs.length) : Nat) : Int) from by rw [show (fs.length : Int) - 1 - (i : Int) + (at_ : Int) = ((fs.length - 1 - i + at_ : Nat) : Int) by omega, ← Int.ofNat_tmod])) ?_)
             refine WL.op rfl (opW.idxV rfl ((hS.sl (v := s23.v) (xs := rs.map Prod.fst) (by repeat constructor))) rfl (by omega) ?_)
             refine WL.op rfl (opW.loadV rfl ((((hS.sl (v := s23.v) (xs := rs.map Prod.fst) (by repeat constructor)).isPt hkr).ldA (Enc.size_eq _)).val (by rw [List.getElem_map])) ?_)
             refine WL.op rfl (opW.call (commit16 w0 _ _ p2 c rs[((fs.length - 1 - i + at_) % fs.length)].1 (chF d fs[((fs.length - 1 - i + at_) % fs.length)]) hcm.ok (fun w hS => hchk ▸ hS.och (ps := rs) (by repeat constructor) hkr2) hclen hP) rfl ?_)
             rintro _ w ⟨rfl, hS⟩
             refine WL.op rfl (opW.boolF (rfl) (opW.neq rfl rfl ⟨rfl, rfl⟩) ?_)
             refine WL.nil ?_
             refine thenQ_n (hK46 _ _ ?_)
             refine WC.cond _ rfl (fun hc10 => ?_) (fun hc10 => ?_)
             ·
              have hr10 := hc10
              try simp only [sq1,sq2,sq3,sq4,sq5,sq6,sq7,sq8,sq9,sq0] at hc10
              cases hr10
             ·
              have hr10 := hc10
              try simp only [sq1,sq2,sq3,sq4,sq5,sq6,sq7,sq8,sq9,sq0] at hc10
              refine WC.skip ?_
              refine blockQ_n ?_
              refine thenQ_n (hK45 _ _ ?_)
              refine WC.region ?_
              refine WL.op rfl (opW.moveI rfl ?_)
              refine WL.op rfl (opW.add rfl rfl (wrap_i64 (by omega)) ?_)
              refine WL.op rfl (opW.assignI rfl ?_)
              refine WL.nil ?_
              refine thenQ_n ?_
              exact ⟨fs.length - (i + 1), by omega, i + 1, _, ⟨rfl, rfl, rfl, rfl, rfl, rfl, congrArg (Value.int .i64) (by omega), trivial⟩, (((((((hS.pick (e := ochE rs) (by repeat constructor)).pick (e := ownE s23.v 59 (rs.map Prod.fst)) (by repeat constructor)).pick (e := ochE ps) (by repeat constructor)).pick (e := ownE s1.v 59 (ps.map Prod.fst)) (by repeat constructor)).pick (e := stE p (dAt d fs fs.length)) (by repeat constructor)).pick (e := stE p2 (putsF c (chF d fs[((fs.length - 1 - i + at_) % fs.length)]))) (by repeat constructor)).sub (by repeat with_reducible first | exact su1 _ | exact su2 _ | refine su3 ?_ | refine su4 ?_)), hcm.step hok hoks hfr.no hzz hkl RevJ.step, by omega, rfl⟩
            ·
             have hr9 := hc9
             try simp only [sq1,sq2,sq3,sq4,sq5,sq6,sq7,sq8,sq9,sq0] at hc9
             obtain rfl : i = fs.length := by omega
             have hfin := hcm.all hok hoks hfr.no (fun j hj => RevJ.all hj)
             refine WC.exit ?_
             refine thenQ_e ?_
             refine thenQ_e ?_
             refine blockQ_hit ?_
             refine thenQ_n (hK41 _ _ ?_)
             refine WC.seq (fun K47 hK47 => ?_)
             refine WC.region ?_
             refine WL.op rfl (opW.moveV (v := s1.v) rfl ?_)
             refine WL.op rfl (opW.moveV (v := s23.v) rfl ?_)
             refine WL.op rfl (opW.call (sameOutcomes_ok _ s1.v s23.v (ps.map Prod.fst) (rs.map Prod.fst) (hS.sl (v := s1.v) (xs := ps.map Prod.fst) (by repeat constructor)) (hS.sl (v := s23.v) (xs := rs.map Prod.fst) (by repeat constructor)) (by omega) (by rw [List.length_map, List.length_map]; omega) (fun j h1 h2 => apart_at hok hoks hfr.no hF hee hrr hS (by repeat constructor) (by repeat constructor) h1 h2)) rfl ?_)
             rintro _ w ⟨rfl, hw⟩; replace hS := hS.bel hw
             refine WL.op rfl (opW.moveB rfl ?_)
             refine WL.gT 171 rfl rfl rfl (WL.op rfl (opW.moveV (v := .pointer (some ⟨p, 0, none⟩)) rfl ?_))
             refine WL.gT 171 rfl rfl rfl (WL.op rfl (opW.moveV (v := .pointer (some ⟨p2, 0, none⟩)) rfl ?_))
             refine WL.gT 171 rfl rfl rfl (WL.op rfl (opW.call (same13 w0 _ _ p p2 (dAt d fs fs.length) c hda.1 hcm.ok hfin ((hS.pick (e := stE p2 c) (by repeat constructor)).pick (e := stE p (dAt d fs fs.length)) (by repeat constructor))) rfl ?_))
             rintro _ w ⟨rfl, hS⟩
             refine WL.op rfl (opW.pickT rfl rfl ?_)
             refine WL.op rfl (opW.moveB rfl ?_)
             refine WL.gT 176 rfl rfl rfl (WL.op rfl (opW.call (lives16 _ (hg.bel hS.old)) rfl ?_))
             rintro _ w ⟨rfl, hw⟩; replace hS := hS.bel hw
             refine WL.op rfl (opW.pickT rfl rfl ?_)
             refine WL.op rfl (opW.assignB rfl ?_)
             refine WL.nil ?_
             refine thenQ_n (hK47 _ _ ?_)
             refine WC.ret ?_
             refine bodyQ_ret (.tmpB rfl .nil) ?_
             exact ⟨rfl, hS.old⟩

end Go.Fer
