/- LedgersBehind -/
import Derived.Test.YthfbfhokmknfnaaDoorNE
import Derived.Test.YthfbfhokmknfnaaDoorNB
set_option linter.all false
namespace Go.Fer
open Go Go.Proofs Go.RowKit

theorem nadd_mod {a b : Nat} : IntKind.u64.wrap ((a : Int) + (b : Int)) = (((a + b) % 18446744073709551616 : Nat) : Int) := by
 rw [wrap_u64_mod]; omega
theorem behind_at {w0 w : World} {S : List Ent} {ps ps1 ps2 : List (Outcome × List Holding)} (hsm : ∀ j (h1 : j < ps.length) (h2 : j < (ps1 ++ ps2).length), OSame ps[j].1 (ps1 ++ ps2)[j].1 ∧ ps[j].2 = (ps1 ++ ps2)[j].2) (hl : ps.length = ps1.length + ps2.length) (hS : St w0 S w) (he : Has (ochE ps) S) (he1 : Has (ochE ps1) S) (he2 : Has (ochE ps2) S) {j : Nat} (h1 : j < (ps.map Prod.fst).length) (h2 : j < (ps1.map Prod.fst ++ ps2.map Prod.fst).length) : ∃ ch : List Holding, SlR w ((ps.map Prod.fst)[j]).changed.v ch ∧ SlR w ((ps1.map Prod.fst ++ ps2.map Prod.fst)[j]).changed.v ch ∧ OSame (ps.map Prod.fst)[j] (ps1.map Prod.fst ++ ps2.map Prod.fst)[j] := by
 have h3 : j < ps.length := by simpa using h1
 have h4 : j < (ps1 ++ ps2).length := by rw [List.length_append]; omega
 obtain ⟨hs, hc⟩ := hsm j h3 h4
 have e : (ps1.map Prod.fst ++ ps2.map Prod.fst)[j] = (ps1 ++ ps2)[j].1 := by
  simp only [← List.map_append, List.getElem_map]
 rw [e, List.getElem_map]
 refine ⟨_, hS.och he h3, ?_, hs⟩
 rw [hc]
 rcases Nat.lt_or_ge j ps1.length with hj | hj
 ·simp only [List.getElem_append_left hj]
  exact hS.och he1 hj
 ·simp only [List.getElem_append_right hj]
  exact hS.och he2 (by omega)

set_option maxRecDepth 20000 in
set_option maxHeartbeats 4000000 in
theorem behind_law (w0 : World) (vl : Value) (sr : SlV) (l : List Holding) (Rs : List Ready) (at_ : Nat) (hat : at_ ≤ 255) (hl : SlR w0 vl l) (hlw : ∀ h ∈ l, okW h.account) (hr : SlR w0 sr.v Rs) (hR0 : ∀ R ∈ Rs, R.okz w0) (hg : ErrLaid w0) : Ret Tryd.prog 3 #[vl, sr.v, .int .u8 (at_ : Int)] w0 (fun r w' => r = .bool true ∧ Bel w0 w') := by
 refine Ret.enter (args := [vl, sr.v, .int .u8 (at_ : Int)]) Tryd.func3 rfl Tryd.ntmps3 Tryd.results3 rfl ?_
 have hS := St.start w0
 obtain ⟨xs, hxs, hx0⟩ := txs_of hR0
 subst hxs
 refine WC.seq (fun K1 hK1 => ?_)
 refine WC.region ?_
 refine WL.op rfl (opW.assignB rfl ?_)
 refine WL.nil ?_
 refine thenQ_n (hK1 _ _ ?_)
 refine WC.seq (fun K2 hK2 => ?_)
 refine WC.seq (fun K3 hK3 => ?_)
 refine WC.region ?_
 refine WL.op rfl (opW.moveV (v := vl) rfl ?_)
 refine WL.op rfl (opW.moveV (v := sr.v) rfl ?_)
 refine WL.op rfl (opW.call (great16 _ vl _ l (xs.map TX.R) (hl.bel hS.old) (hr.bel hS.old) (fun R hR => Ready.okz.bel hS.old (hR0 R hR))) rfl ?_)
 rintro _ w ⟨bb, rfl, hbb, hw⟩; replace hS := hS.bel hw
 refine WL.nil ?_
 refine thenQ_n (hK3 _ _ ?_)
 refine WC.cond _ rfl (fun hc0 => ?_) (fun hc0 => ?_)
 ·
  have hr0 := hc0
  try simp only [sq1,sq2,sq3,sq4,sq5,sq6,sq7,sq8,sq9,sq0] at hc0
  refine WC.seq (fun K4 hK4 => ?_)
  refine WC.region ?_
  refine WL.op rfl (opW.call (lives16 _ (hg.bel hS.old)) rfl ?_)
  rintro _ w ⟨rfl, hw⟩; replace hS := hS.bel hw
  refine WL.op rfl (opW.assignB rfl ?_)
  refine WL.nil ?_
  refine thenQ_n (hK4 _ _ ?_)
  refine WC.ret ?_
  refine thenQ_r ?_
  refine bodyQ_ret (.tmpB rfl .nil) ?_
  exact ⟨rfl, hS.old⟩
 ·
  have hr0 := hc0
  try simp only [sq1,sq2,sq3,sq4,sq5,sq6,sq7,sq8,sq9,sq0] at hc0
  obtain ⟨hll, hrl, hgg⟩ := hbb (by simpa using hr0)
  rw [List.length_map] at hrl
  have hxk : ∀ x ∈ xs, TXOk w0 x := fun x hx => (hx0 x hx).2 (by have := (hgg x.R (List.mem_map_of_mem hx)).r (hx0 x hx).1; omega)
  have hml : (xs.map TX.R).length = xs.length := List.length_map _
  refine WC.skip ?_
  refine thenQ_n (hK2 _ _ ?_)
  refine WC.seq (fun K5 hK5 => ?_)
  refine WC.region ?_
  refine WL.op rfl (opW.moveV (v := vl) rfl ?_)
  refine WL.op rfl (opW.call (stores15 _ vl l (hl.bel hS.old) (by omega) hlw) rfl ?_)
  rintro _ w ⟨p, q, d, rfl, hok, hoks, hN⟩
  replace hS := hS.merge hN
  simp only [List.cons_append, List.nil_append] at hS
  refine WL.op rfl (opW.moveV (v := .tuple #[.pointer (some ⟨p, 0, none⟩), .pointer (some ⟨q, 0, none⟩)]) rfl ?_)
  refine WL.op rfl (opW.extract rfl rfl ?_)
  refine WL.op rfl (opW.extract rfl rfl ?_)
  refine WL.op rfl (opW.assignV (v := .pointer (some ⟨p, 0, none⟩)) rfl ?_)
  refine WL.op rfl (opW.assignV (v := .pointer (some ⟨q, 0, none⟩)) rfl ?_)
  refine WL.nil ?_
  refine thenQ_n (hK5 _ _ ?_)
  refine WC.seq (fun K6 hK6 => ?_)
  refine WC.region ?_
  refine WL.op rfl (opW.moveV (v := .pointer (some ⟨p, 0, none⟩)) rfl ?_)
  refine WL.op rfl (opW.call (copy13 _ p d (hS.stAt (by repeat constructor))) rfl ?_)
  rintro _ w ⟨p2, r2, rfl, hN, hw⟩; replace hS := hS.newE hw hN
  have hok2 : StOk (⟨r2, d.kvs⟩ : StD) := ⟨hok.nd, hok.ne⟩
  have hoks2 : okS (⟨r2, d.kvs⟩ : StD) := hoks
  refine WL.op rfl (opW.assignV (v := .pointer (some ⟨p2, 0, none⟩)) rfl ?_)
  refine WL.nil ?_
  refine thenQ_n (hK6 _ _ ?_)
  refine WC.seq (fun K7 hK7 => ?_)
  refine WC.region ?_
  refine WL.op rfl (opW.moveI rfl ?_)
  refine WL.op rfl (opW.conv rfl (wrap_i64 (by omega)) ?_)
  refine WL.op rfl (opW.moveV (v := sr.v) rfl ?_)
  refine WL.op rfl (opW.lenV rfl ((hr.bel hS.old)) ?_)
  refine WL.op rfl (opW.add rfl rfl (wrap_i64 (by omega)) ?_)
  refine WL.op rfl (opW.rem rfl rfl (by omega) ((show Int.tmod (at_ : Int) (((xs.map TX.R).length : Int) + 1) = (((at_ % (xs.length + 1)) : Nat) : Int) from by rw [hml, ← Int.natCast_add_one, ← Int.ofNat_tmod])) ?_)
  refine WL.op rfl (opW.assignI rfl ?_)
  refine WL.nil ?_
  refine thenQ_n (hK7 _ _ ?_)
  refine WC.seq (fun K8 hK8 => ?_)
  refine WC.region ?_
  have hP := hS.pick (e := stE p d) (by repeat constructor)
  refine WL.op rfl (opW.moveV (v := .pointer (some ⟨p, 0, none⟩)) rfl ?_)
  refine WL.op rfl (opW.moveV (v := sr.v) rfl ?_)
  refine WL.op rfl (opW.call (fold_ok w0 _ _ p sr xs d hg hok hoks (by omega) (fun w hS => ⟨hr.bel hS.old, fun x hx => (hxk x hx).bel hS.old⟩) hP) rfl ?_)
  rintro _ w ⟨k, s1, ps, e, rfl, hF, hS⟩
  refine WL.op rfl (opW.moveV (v := .tuple #[s1.v, .int .u64 ((feeL ps : Nat) : Int), .int .i64 e]) rfl ?_)
  refine WL.op rfl (opW.extract rfl rfl ?_)
  refine WL.op rfl (opW.extract rfl rfl ?_)
  refine WL.op rfl (opW.extract rfl rfl ?_)
  refine WL.op rfl (opW.assignV (v := s1.v) rfl ?_)
  refine WL.op rfl (opW.assignI rfl ?_)
  refine WL.op rfl (opW.assignI rfl ?_)
  refine WL.nil ?_
  refine thenQ_n (hK8 _ _ ?_)
  refine WC.seq (fun K9 hK9 => ?_)
  refine WC.region ?_
  have hM : (at_ % (xs.length + 1)) ≤ xs.length := by have := Nat.mod_lt at_ (show 0 < xs.length + 1 by omega); omega
  have hcut0 := hr.cut (l := 0) (h := (at_ % (xs.length + 1))) (m := capV sr.v) (Nat.zero_le _) (by omega) (by have := hr.cap; omega) (Nat.le_refl _)
  rw [List.drop_zero, ← List.map_take] at hcut0
  obtain ⟨sc, hsc⟩ := hcut0.asV
  have hcut : SlR w0 sc.v ((xs.take (at_ % (xs.length + 1))).map TX.R) := hsc ▸ hcut0
  have hcut20 := hr.cut (l := (at_ % (xs.length + 1))) (h := xs.length) (m := capV sr.v) hM (by omega) (by have := hr.cap; omega) (Nat.le_refl _)
  rw [show (xs.map TX.R).take xs.length = xs.map TX.R from List.take_of_length_le (by omega), ← List.map_drop] at hcut20
  obtain ⟨sd, hsd⟩ := hcut20.asV
  have hcut2 : SlR w0 sd.v ((xs.drop (at_ % (xs.length + 1))).map TX.R) := hsd ▸ hcut20
  have hP := hS.pick (e := stE p2 (⟨r2, d.kvs⟩ : StD)) (by repeat constructor)
  have htl := List.length_take (i := (at_ % (xs.length + 1))) (l := xs)
  have hdl := List.length_drop (i := (at_ % (xs.length + 1))) (l := xs)
  refine WL.op rfl (opW.moveV (v := .pointer (some ⟨p2, 0, none⟩)) rfl ?_)
  refine WL.op rfl (opW.moveV (v := sr.v) rfl ?_)
  refine WL.op rfl (opW.moveI rfl ?_)
  refine WL.op rfl (opW.cutS (hr.bel hS.old) (xs := (xs.map TX.R)) (l := 0) (h' := (at_ % (xs.length + 1))) (m := capV sr.v) ⟨rfl, Nat.le_refl _⟩ ⟨⟨_, rfl⟩, by have := hr.cap; omega⟩ ⟨rfl, Nat.zero_le _⟩ ?_)
  show WL _ _ _ _ _ (upd _ _ (cutV sr.v 0 (at_ % (xs.length + 1)) (capV sr.v) (Enc.sz Ready))) _
  rw [hsc]
  refine WL.op rfl (opW.call (fold_ok w0 _ _ p2 sc (xs.take (at_ % (xs.length + 1))) (⟨r2, d.kvs⟩ : StD) hg hok2 hoks2 (by omega) (fun w hS => ⟨hcut.bel hS.old, fun x hx => (hxk x (List.mem_of_mem_take hx)).bel hS.old⟩) hP) rfl ?_)
  rintro _ w ⟨k1, s2, ps1, f1, rfl, hF1, hS⟩
  have hF1d : FoldIs d (xs.take (at_ % (xs.length + 1))) k1 ps1 f1 := FoldIs.re (r := r2) hF1
  have hl0 := hF.len
  have hl1 := hF1.len
  have hle0 := hF.le
  have hle1 := hF1.le
  have hm0 := (List.length_map _ : (ps.map Prod.fst).length = ps.length)
  have hm1 := (List.length_map _ : (ps1.map Prod.fst).length = ps1.length)
  refine WL.op rfl (opW.moveV (v := .tuple #[s2.v, .int .u64 ((feeL ps1 : Nat) : Int), .int .i64 f1]) rfl ?_)
  refine WL.op rfl (opW.extract rfl rfl ?_)
  refine WL.op rfl (opW.extract rfl rfl ?_)
  refine WL.op rfl (opW.extract rfl rfl ?_)
  refine WL.op rfl (opW.assignV (v := s2.v) rfl ?_)
  refine WL.op rfl (opW.assignI rfl ?_)
  refine WL.op rfl (opW.assignI rfl ?_)
  refine WL.nil ?_
  refine thenQ_n (hK9 _ _ ?_)
  refine WC.seq (fun K10 hK10 => ?_)
  refine WC.seq (fun K11 hK11 => ?_)
  refine WC.region ?_
  refine WL.op rfl (opW.moveI rfl ?_)
  refine WL.op rfl (opW.neq rfl rfl ?_)
  refine WL.nil ?_
  refine thenQ_n (hK11 _ _ ?_)
  refine WC.cond _ rfl (fun hc1 => ?_) (fun hc1 => ?_)
  ·
   have hr1 := hc1
   try simp only [sq1,sq2,sq3,sq4,sq5,sq6,sq7,sq8,sq9,sq0] at hc1
   have hf1 : f1 ≠ 0 := by simpa using hr1
   have hFp := hF1d.part hf1
   obtain ⟨hkk, hee⟩ := hF.uniq hFp
   subst hkk hee
   have hsm := hF.same hFp
   have hfe := fees_same (by omega) hsm
   have hdd : ((dAt (⟨r2, d.kvs⟩ : StD) (xs.take (at_ % (xs.length + 1))) k)) = (dAt d xs k).re r2 := (by show dAt (d.re r2) _ _ = _; rw [dAt_re, dAt_take (by omega)])
   rw [hdd] at hS
   have hda := dAt_ok (xs := xs) hok hoks k
   refine WC.seq (fun K12 hK12 => ?_)
   refine WC.region ?_
   refine WL.op rfl (opW.moveI rfl ?_)
   refine WL.op rfl (opW.moveI rfl ?_)
   refine WL.op rfl (opW.boolT (decide_eq_true rfl) (opW.eql rfl rfl ⟨rfl, rfl⟩) ?_)
   refine WL.op rfl (opW.moveB rfl ?_)
   refine WL.gT 59 rfl rfl rfl (WL.op rfl (opW.moveI rfl ?_))
   refine WL.gT 59 rfl rfl rfl (WL.op rfl (opW.moveI rfl ?_))
   refine WL.gT 59 rfl rfl rfl (WL.op rfl (opW.boolT (decide_eq_true (by rw [hfe])) (opW.eql rfl rfl ⟨rfl, rfl⟩) ?_))
   refine WL.op rfl (opW.pickT rfl rfl ?_)
   refine WL.op rfl (opW.moveB rfl ?_)
   refine WL.gT 64 rfl rfl rfl (WL.op rfl (opW.moveV (v := s1.v) rfl ?_))
   refine WL.gT 64 rfl rfl rfl (WL.op rfl (opW.moveV (v := s2.v) rfl ?_))
   refine WL.gT 64 rfl rfl rfl (WL.op rfl (opW.call (sameOutcomes_ok _ s1.v s2.v (ps.map Prod.fst) (ps1.map Prod.fst) (hS.sl (v := s1.v) (xs := ps.map Prod.fst) (by repeat constructor)) (hS.sl (v := s2.v) (xs := ps1.map Prod.fst) (by repeat constructor)) (by omega) (by omega) (fun j h1 h2 => (by rw [List.getElem_map, List.getElem_map]; have hj := hsm j (by omega) (by omega); exact ⟨_, hS.och (ps := ps) (by repeat constructor) (by omega), (by have h3 := hS.och (ps := ps1) (by repeat constructor) (j := j) (by omega); rw [← hj.2] at h3; exact h3), hj.1⟩))) rfl ?_))
   rintro _ w ⟨rfl, hw⟩; replace hS := hS.bel hw
   refine WL.op rfl (opW.pickT rfl rfl ?_)
   refine WL.op rfl (opW.moveB rfl ?_)
   refine WL.gT 69 rfl rfl rfl (WL.op rfl (opW.moveV (v := .pointer (some ⟨p, 0, none⟩)) rfl ?_))
   refine WL.gT 69 rfl rfl rfl (WL.op rfl (opW.moveV (v := .pointer (some ⟨p2, 0, none⟩)) rfl ?_))
   refine WL.gT 69 rfl rfl rfl (WL.op rfl (opW.call (same13 w0 _ _ p p2 (dAt d xs k) ((dAt d xs k).re r2) hda.1 ⟨hda.1.nd, hda.1.ne⟩ (fun _ => rfl) ((hS.pick (e := stE p2 ((dAt d xs k).re r2)) (by repeat constructor)).pick (e := stE p (dAt d xs k)) (by repeat constructor))) rfl ?_))
   rintro _ w ⟨rfl, hS⟩
   refine WL.op rfl (opW.pickT rfl rfl ?_)
   refine WL.op rfl (opW.moveB rfl ?_)
   refine WL.gT 74 rfl rfl rfl (WL.op rfl (opW.call (lives16 _ (hg.bel hS.old)) rfl ?_))
   rintro _ w ⟨rfl, hw⟩; replace hS := hS.bel hw
   refine WL.op rfl (opW.pickT rfl rfl ?_)
   refine WL.op rfl (opW.assignB rfl ?_)
   refine WL.nil ?_
   refine thenQ_n (hK12 _ _ ?_)
   refine WC.ret ?_
   refine thenQ_r ?_
   refine bodyQ_ret (.tmpB rfl .nil) ?_
   exact ⟨rfl, hS.old⟩
  ·
   have hr1 := hc1
   try simp only [sq1,sq2,sq3,sq4,sq5,sq6,sq7,sq8,sq9,sq0] at hc1
   have hf1 : f1 = 0 := by simpa using hr1
   subst hf1
   have hk1 := hF1d.join_err hM
   have hdb := dAt_ok (xs := xs.take (at_ % (xs.length + 1))) hok2 hoks2 k1
   refine WC.skip ?_
   refine thenQ_n (hK10 _ _ ?_)
   refine WC.seq (fun K13 hK13 => ?_)
   refine WC.region ?_
   have hP := hS.pick (e := stE p2 ((dAt (⟨r2, d.kvs⟩ : StD) (xs.take (at_ % (xs.length + 1))) k1))) (by repeat constructor)
   refine WL.op rfl (opW.moveV (v := .pointer (some ⟨p2, 0, none⟩)) rfl ?_)
   refine WL.op rfl (opW.moveV (v := sr.v) rfl ?_)
   refine WL.op rfl (opW.moveI rfl ?_)
   refine WL.op rfl (opW.cutS (hr.bel hS.old) (xs := (xs.map TX.R)) (l := (at_ % (xs.length + 1))) (h' := xs.length) (m := capV sr.v) ⟨rfl, Nat.le_refl _⟩ ⟨⟨hml.symm, rfl⟩, by have := hr.cap; omega⟩ ⟨⟨_, rfl⟩, hM⟩ ?_)
   show WL _ _ _ _ _ (upd _ _ (cutV sr.v (at_ % (xs.length + 1)) xs.length (capV sr.v) (Enc.sz Ready))) _
   rw [hsd]
   refine WL.op rfl (opW.call (fold_ok w0 _ _ p2 sd (xs.drop (at_ % (xs.length + 1))) ((dAt (⟨r2, d.kvs⟩ : StD) (xs.take (at_ % (xs.length + 1))) k1)) hg hdb.1 hdb.2 (by omega) (fun w hS => ⟨hcut2.bel hS.old, fun x hx => (hxk x (List.mem_of_mem_drop hx)).bel hS.old⟩) hP) rfl ?_)
   rintro _ w ⟨k2, s3, ps2, g1, rfl, hF2, hS⟩
   have hDBr : ((dAt (⟨r2, d.kvs⟩ : StD) (xs.take (at_ % (xs.length + 1))) k1)) = (dAt d xs (at_ % (xs.length + 1))).re r2 := (by show dAt (d.re r2) _ _ = _; rw [dAt_re, dAt_take (by omega), hk1])
   have hF2d : FoldIs (dAt d xs (at_ % (xs.length + 1))) (xs.drop (at_ % (xs.length + 1))) k2 ps2 g1 := FoldIs.re (r := r2) (hDBr ▸ hF2)
   have hFj := FoldIs.join hM hF1d hF2d
   obtain ⟨hkk, hee⟩ := hF.uniq hFj
   subst hee
   have hl2 := hF2.len
   have hm2 := (List.length_map _ : (ps2.map Prod.fst).length = ps2.length)
   have hsm := hF.same hFj
   have hla : (ps1 ++ ps2).length = ps1.length + ps2.length := List.length_append
   have hfe := fees_same (by omega) hsm
   have hfj := fee_joined ps1 ps2
   have hdd : (dAt (dAt (⟨r2, d.kvs⟩ : StD) (xs.take (at_ % (xs.length + 1))) k1) (xs.drop (at_ % (xs.length + 1))) k2) = (dAt d xs k).re r2 := (by rw [hDBr, dAt_re, dAt_drop, hkk])
   rw [hdd] at hS
   have hda := dAt_ok (xs := xs) hok hoks k
   have hfl1 := feeL_lt ps1
   have hfl2 := feeL_lt ps2
   refine WL.op rfl (opW.moveV (v := .tuple #[s3.v, .int .u64 ((feeL ps2 : Nat) : Int), .int .i64 e]) rfl ?_)
   refine WL.op rfl (opW.extract rfl rfl ?_)
   refine WL.op rfl (opW.extract rfl rfl ?_)
   refine WL.op rfl (opW.extract rfl rfl ?_)
   refine WL.op rfl (opW.assignV (v := s3.v) rfl ?_)
   refine WL.op rfl (opW.assignI rfl ?_)
   refine WL.op rfl (opW.assignI rfl ?_)
   refine WL.nil ?_
   refine thenQ_n (hK13 _ _ ?_)
   refine WC.seq (fun K14 hK14 => ?_)
   refine WC.region ?_
   refine WL.op rfl (opW.moveI rfl ?_)
   refine WL.op rfl (opW.moveI rfl ?_)
   refine WL.op rfl (opW.add rfl rfl (nadd_mod) ?_)
   refine WL.op rfl (opW.assignI rfl ?_)
   refine WL.nil ?_
   refine thenQ_n (hK14 _ _ ?_)
   refine WC.mid (fun f w =>  Fits [(7, .pointer (some ⟨p, 0, none⟩)), (9, .pointer (some ⟨p2, 0, none⟩)), (11, s1.v), (12, .int .u64 ((feeL ps : Nat) : Int)), (13, .int .i64 e), (14, s2.v), (17, s3.v), (19, .int .i64 e), (20, .int .u64 ((feeL ps : Nat) : Int))] f ∧ St w0 [stE p (dAt d xs k), stE p2 ((dAt d xs k).re r2), ownE s1.v 59 (ps.map Prod.fst), ochE ps, ownE s2.v 59 (ps1.map Prod.fst), ochE ps1, ownE s3.v 59 (ps2.map Prod.fst), ochE ps2] w) ?_ ?_
   ·
    refine WC.seq (fun K15 hK15 => ?_)
    refine WC.region ?_
    refine WL.op rfl (opW.moveI rfl ?_)
    refine WL.op rfl (opW.moveI rfl ?_)
    refine WL.op rfl (opW.lss rfl rfl ?_)
    refine WL.nil ?_
    refine thenQ_n (hK15 _ _ ?_)
    refine WC.cond _ rfl (fun hc2 => ?_) (fun hc2 => ?_)
    ·
     have hr2 := hc2
     try simp only [sq1,sq2,sq3,sq4,sq5,sq6,sq7,sq8,sq9,sq0] at hc2
     refine WC.region ?_
     refine WL.op rfl (opW.assignI rfl ?_)
     refine WL.nil ?_
     refine thenQ_n ?_
     refine ⟨⟨rfl, rfl, rfl, rfl, rfl, rfl, rfl, rfl, ?_, trivial⟩, (((((((hS.pick (e := ochE ps2) (by repeat constructor)).pick (e := ownE s3.v 59 (ps2.map Prod.fst)) (by repeat constructor)).pick (e := ochE ps1) (by repeat constructor)).pick (e := ownE s2.v 59 (ps1.map Prod.fst)) (by repeat constructor)).pick (e := ochE ps) (by repeat constructor)).pick (e := ownE s1.v 59 (ps.map Prod.fst)) (by repeat constructor)).pick (e := stE p2 ((dAt d xs k).re r2)) (by repeat constructor) |>.pick (e := stE p (dAt d xs k)) (by repeat constructor)).sub (by repeat with_reducible first | exact su1 _ | exact su2 _ | refine su3 ?_ | refine su4 ?_)⟩
     first
      | (rw [hfe, ← hfj, if_pos (by omega)]; rfl)
      | (rw [hfe, ← hfj, if_neg (by omega)]; rfl)
    ·
     have hr2 := hc2
     try simp only [sq1,sq2,sq3,sq4,sq5,sq6,sq7,sq8,sq9,sq0] at hc2
     refine WC.skip ?_
     refine thenQ_n ?_
     refine ⟨⟨rfl, rfl, rfl, rfl, rfl, rfl, rfl, rfl, ?_, trivial⟩, (((((((hS.pick (e := ochE ps2) (by repeat constructor)).pick (e := ownE s3.v 59 (ps2.map Prod.fst)) (by repeat constructor)).pick (e := ochE ps1) (by repeat constructor)).pick (e := ownE s2.v 59 (ps1.map Prod.fst)) (by repeat constructor)).pick (e := ochE ps) (by repeat constructor)).pick (e := ownE s1.v 59 (ps.map Prod.fst)) (by repeat constructor)).pick (e := stE p2 ((dAt d xs k).re r2)) (by repeat constructor) |>.pick (e := stE p (dAt d xs k)) (by repeat constructor)).sub (by repeat with_reducible first | exact su1 _ | exact su2 _ | refine su3 ?_ | refine su4 ?_)⟩
     first
      | (rw [hfe, ← hfj, if_pos (by omega)]; rfl)
      | (rw [hfe, ← hfj, if_neg (by omega)]; rfl)
   ·
    rintro f w ⟨hfit, hS⟩
    refine WC.fits _ hfit (fun g => ?_)
    clear hfit
    refine WC.seq (fun K16 hK16 => ?_)
    refine WC.region ?_
    refine WL.op rfl (opW.moveI rfl ?_)
    refine WL.op rfl (opW.moveI rfl ?_)
    refine WL.op rfl (opW.boolT (decide_eq_true rfl) (opW.eql rfl rfl ⟨rfl, rfl⟩) ?_)
    refine WL.op rfl (opW.moveB rfl ?_)
    refine WL.gT 95 rfl rfl rfl (WL.op rfl (opW.moveI rfl ?_))
    refine WL.gT 95 rfl rfl rfl (WL.op rfl (opW.moveI rfl ?_))
    refine WL.gT 95 rfl rfl rfl (WL.op rfl (opW.boolT (decide_eq_true rfl) (opW.eql rfl rfl ⟨rfl, rfl⟩) ?_))
    refine WL.op rfl (opW.pickT rfl rfl ?_)
    refine WL.op rfl (opW.moveB rfl ?_)
    refine WL.gT 100 rfl rfl rfl (WL.op rfl (opW.moveV (v := s1.v) rfl ?_))
    refine WL.gT 100 rfl rfl rfl (WL.op rfl (opW.moveV (v := s2.v) rfl ?_))
    refine WL.gT 100 rfl rfl rfl (WL.op rfl (opW.appendNil (α := Outcome) rfl hS rfl ((hS.sl (v := s2.v) (xs := ps1.map Prod.fst) (by repeat constructor))) (by omega) (by simp only [maxLen]; omega) ?_))
    intro v103 w hw hS
    refine WL.gT 100 rfl rfl rfl (WL.op rfl (opW.moveV (v := s3.v) rfl ?_))
    refine WL.gT 100 rfl rfl rfl (WL.op rfl (opW.appendOwn (α := Outcome) (v := v103) (xs := ps1.map Prod.fst) (ys := ps2.map Prod.fst) rfl hS rfl (by repeat constructor) (hS.sl (v := s3.v) (xs := ps2.map Prod.fst) (by repeat constructor)) (by omega) (by simp only [maxLen]; omega) ?_))
    intro v105 w hS; replace hS := hS _ (by repeat constructor)
    refine WL.gT 100 rfl rfl rfl (WL.op rfl (opW.call (sameOutcomes_ok _ s1.v v105 (ps.map Prod.fst) (ps1.map Prod.fst ++ ps2.map Prod.fst) (hS.sl (v := s1.v) (xs := ps.map Prod.fst) (by repeat constructor)) (hS.sl (v := v105) (xs := ps1.map Prod.fst ++ ps2.map Prod.fst) (by repeat constructor)) (by omega) (by rw [List.length_append]; omega) (fun j h1 h2 => behind_at hsm (by omega) hS (by repeat constructor) (by repeat constructor) (by repeat constructor) h1 h2)) rfl ?_))
    rintro _ w ⟨rfl, hw⟩; replace hS := hS.bel hw
    refine WL.op rfl (opW.pickT rfl rfl ?_)
    refine WL.op rfl (opW.moveB rfl ?_)
    refine WL.gT 108 rfl rfl rfl (WL.op rfl (opW.moveV (v := .pointer (some ⟨p, 0, none⟩)) rfl ?_))
    refine WL.gT 108 rfl rfl rfl (WL.op rfl (opW.moveV (v := .pointer (some ⟨p2, 0, none⟩)) rfl ?_))
    refine WL.gT 108 rfl rfl rfl (WL.op rfl (opW.call (same13 w0 _ _ p p2 (dAt d xs k) ((dAt d xs k).re r2) hda.1 ⟨hda.1.nd, hda.1.ne⟩ (fun _ => rfl) ((hS.pick (e := stE p2 ((dAt d xs k).re r2)) (by repeat constructor)).pick (e := stE p (dAt d xs k)) (by repeat constructor))) rfl ?_))
    rintro _ w ⟨rfl, hS⟩
    refine WL.op rfl (opW.pickT rfl rfl ?_)
    refine WL.op rfl (opW.moveB rfl ?_)
    refine WL.gT 113 rfl rfl rfl (WL.op rfl (opW.call (lives16 _ (hg.bel hS.old)) rfl ?_))
    rintro _ w ⟨rfl, hw⟩; replace hS := hS.bel hw
    refine WL.op rfl (opW.pickT rfl rfl ?_)
    refine WL.op rfl (opW.assignB rfl ?_)
    refine WL.nil ?_
    refine thenQ_n (hK16 _ _ ?_)
    refine WC.ret ?_
    refine bodyQ_ret (.tmpB rfl .nil) ?_
    exact ⟨rfl, hS.old⟩

end Go.Fer
