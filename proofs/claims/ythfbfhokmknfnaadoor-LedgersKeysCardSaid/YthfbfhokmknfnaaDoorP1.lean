/- LedgersKeys -/
import Derived.Test.YthfbfhokmknfnaaDoorNC
import Derived.Test.YthfbfhokmknfnaaDoorNB
set_option linter.all false
namespace Go.Fer
open Go Go.Proofs Go.RowKit

set_option maxRecDepth 20000 in
set_option maxHeartbeats 4000000 in
theorem keys_law (w0 : World) (vl : Value) (l : List Holding) (R : Ready) (k : Key) (hR0 : R.okz w0) (hl : SlR w0 vl l) (hlw : ∀ h ∈ l, okW h.account) (hg : ErrLaid w0) : Ret Tryd.prog 4 #[vl, .agg (Enc.enc R), .agg (Enc.enc k)] w0 (fun r w' => r = .bool true ∧ Bel w0 w') := by
 refine Ret.enter (args := [vl, .agg (Enc.enc R), .agg (Enc.enc k)]) Tryd.func4 rfl Tryd.ntmps4 Tryd.results4 rfl ?_
 have hS := St.start w0
 obtain ⟨x, hxR, hro, hx0⟩ := tx_of hR0
 subst hxR
 refine WC.seq (fun K1 hK1 => ?_)
 refine WC.region ?_
 refine WL.op rfl (opW.boxA hS rfl ?_)
 intro b4 w _ hS
 refine WL.op rfl (opW.boxA hS rfl ?_)
 intro b5 w _ hS
 refine WL.op rfl (opW.assignB rfl ?_)
 refine WL.nil ?_
 refine thenQ_n (hK1 _ _ ?_)
 refine WC.seq (fun K2 hK2 => ?_)
 refine WC.seq (fun K3 hK3 => ?_)
 refine WC.region ?_
 refine WL.op rfl (opW.moveV (v := vl) rfl ?_)
 refine WL.op rfl (opW.loadV rfl (hS.ldA (b := b4) (cs := Enc.enc x.R) (by repeat constructor) (Enc.size_eq x.R)) ?_)
 refine WL.op rfl (opW.buildSl hS (([x.R] : List Ready)) [.agg (Enc.enc x.R)] rfl rfl rfl rfl (by decide) ?_)
 intro b21 w hw hS
 refine WL.op rfl (opW.call (great16 _ vl _ l [x.R] (hl.bel hS.old) (hS.sl (v := .slice (some ⟨b21, 0, none⟩) 1 1) (xs := ([x.R] : List Ready)) (by repeat constructor)) (fun R hR => by obtain rfl := List.mem_singleton.1 hR; exact Ready.okz.bel hS.old hR0)) rfl ?_)
 rintro _ w ⟨bb, rfl, hbb, hw⟩; replace hS := hS.bel hw
 refine WL.nil ?_
 refine thenQ_n (hK3 _ _ ?_)
 refine WC.cond _ rfl (fun hc0 => ?_) (fun hc0 => ?_)
 ·
  have hr0 := hc0
  try simp only [sq1,sq2,sq3,sq4,sq5,sq6,sq7,sq8,sq9,sq0] at hc0
  refine WC.seq (fun K4 hK4 => ?_)
  refine WC.region ?_
  refine WL.op rfl (opW.call (lives16 _ (hg.bel hS.old)) rfl ?_)
  rintro _ w ⟨rfl, hw⟩; replace hS := hS.bel hw
  refine WL.op rfl (opW.assignB rfl ?_)
  refine WL.nil ?_
  refine thenQ_n (hK4 _ _ ?_)
  refine WC.ret ?_
  refine thenQ_r ?_
  refine bodyQ_ret (.tmpB rfl .nil) ?_
  exact ⟨rfl, hS.old⟩
 ·
  have hr0 := hc0
  try simp only [sq1,sq2,sq3,sq4,sq5,sq6,sq7,sq8,sq9,sq0] at hc0
  obtain ⟨hll, _, hgg⟩ := hbb (by simpa using hr0)
  have hrl := (hgg x.R List.mem_cons_self).r hro
  have hx := hx0 (by omega)
  have hwl := wrL_len x.r
  refine WC.skip ?_
  refine thenQ_n (hK2 _ _ ?_)
  refine WC.seq (fun K5 hK5 => ?_)
  refine WC.region ?_
  refine WL.op rfl (opW.moveV (v := vl) rfl ?_)
  refine WL.op rfl (opW.call (stores15 _ vl l (hl.bel hS.old) (by omega) hlw) rfl ?_)
  rintro _ w ⟨p, q, d, rfl, hok, hoks, hN⟩
  replace hS := hS.merge hN
  simp only [List.cons_append, List.nil_append] at hS
  refine WL.op rfl (opW.moveV (v := .tuple #[.pointer (some ⟨p, 0, none⟩), .pointer (some ⟨q, 0, none⟩)]) rfl ?_)
  refine WL.op rfl (opW.extract rfl rfl ?_)
  refine WL.op rfl (opW.extract rfl rfl ?_)
  refine WL.op rfl (opW.assignV (v := .pointer (some ⟨p, 0, none⟩)) rfl ?_)
  refine WL.op rfl (opW.assignV (v := .pointer (some ⟨q, 0, none⟩)) rfl ?_)
  refine WL.nil ?_
  refine thenQ_n (hK5 _ _ ?_)
  refine WC.seq (fun K6 hK6 => ?_)
  refine WC.region ?_
  refine WL.op rfl (opW.moveV (v := .pointer (some ⟨p, 0, none⟩)) rfl ?_)
  refine WL.op rfl (opW.call (copy13 _ p d (hS.stAt (by repeat constructor))) rfl ?_)
  rintro _ w ⟨p2, r2, rfl, hN, hw⟩; replace hS := hS.newE hw hN
  refine WL.op rfl (opW.assignV (v := .pointer (some ⟨p2, 0, none⟩)) rfl ?_)
  refine WL.nil ?_
  refine thenQ_n (hK6 _ _ ?_)
  refine WC.seq (fun K7 hK7 => ?_)
  refine WC.region ?_
  have hP := hS.pick (e := stE p d) (by repeat constructor)
  refine WL.op rfl (opW.moveV (v := .pointer (some ⟨p, 0, none⟩)) rfl ?_)
  refine WL.op rfl (opW.loadV rfl (hS.ldA (b := b4) (cs := Enc.enc x.R) (by repeat constructor) (Enc.size_eq x.R)) ?_)
  refine WL.op rfl (opW.call (apply16 w0 _ _ p d x hok hoks hg (fun w hS => hx.bel hS.old) hP) rfl ?_)
  rintro _ w ⟨o, ch, rfl, hoc, hS⟩
  refine WL.op rfl (opW.moveV (v := .tuple #[.agg (Enc.enc o), .int .i64 (errF d x)]) rfl ?_)
  refine WL.op rfl (opW.extract rfl rfl ?_)
  refine WL.op rfl (opW.extract rfl rfl ?_)
  refine WL.op rfl (opW.allocA hS ?_)
  intro b10 w _ hS
  refine WL.op0 (opW.storeE hS rfl rfl (by repeat constructor) (by first | rfl | exact Enc.size_eq _) ?_)
  intro w hS; replace hS := hS _ (by repeat constructor)
  refine WL.op rfl (opW.assignI rfl ?_)
  refine WL.nil ?_
  refine thenQ_n (hK7 _ _ ?_)
  refine WC.seq (fun K8 hK8 => ?_)
  refine WC.seq (fun K9 hK9 => ?_)
  refine WC.region ?_
  refine WL.op rfl (opW.moveI rfl ?_)
  refine WL.op rfl (opW.neq rfl rfl ?_)
  refine WL.nil ?_
  refine thenQ_n (hK9 _ _ ?_)
  refine WC.cond _ rfl (fun hc1 => ?_) (fun hc1 => ?_)
  ·
   have hr1 := hc1
   try simp only [sq1,sq2,sq3,sq4,sq5,sq6,sq7,sq8,sq9,sq0] at hc1
   have hne : errF d x ≠ 0 := by simpa using hr1
   rw [nextF_no hne] at hS
   have hok2 : StOk (⟨r2, d.kvs⟩ : StD) := ⟨hok.nd, hok.ne⟩
   refine WC.seq (fun K10 hK10 => ?_)
   refine WC.region ?_
   refine WL.op rfl (opW.moveV (v := .pointer (some ⟨p, 0, none⟩)) rfl ?_)
   refine WL.op rfl (opW.moveV (v := .pointer (some ⟨p2, 0, none⟩)) rfl ?_)
   refine WL.op rfl (opW.call (same13 w0 _ _ p p2 d (⟨r2, d.kvs⟩ : StD) hok hok2 (fun _ => rfl) ((hS.pick (e := stE p2 (⟨r2, d.kvs⟩ : StD)) (by repeat constructor)).pick (e := stE p d) (by repeat constructor))) rfl ?_)
   rintro _ w ⟨rfl, hS⟩
   refine WL.op rfl (opW.moveB rfl ?_)
   refine WL.gT 42 rfl rfl rfl (WL.op rfl (opW.call (lives16 _ (hg.bel hS.old)) rfl ?_))
   rintro _ w ⟨rfl, hw⟩; replace hS := hS.bel hw
   refine WL.op rfl (opW.pickT rfl rfl ?_)
   refine WL.op rfl (opW.assignB rfl ?_)
   refine WL.nil ?_
   refine thenQ_n (hK10 _ _ ?_)
   refine WC.ret ?_
   refine thenQ_r ?_
   refine bodyQ_ret (.tmpB rfl .nil) ?_
   exact ⟨rfl, hS.old⟩
  ·
   have hr1 := hc1
   try simp only [sq1,sq2,sq3,sq4,sq5,sq6,sq7,sq8,sq9,sq0] at hc1
   refine WC.skip ?_
   refine thenQ_n (hK8 _ _ ?_)
   refine WC.seq (fun K11 hK11 => ?_)
   refine WC.region ?_
   refine WL.op rfl (opW.fieldAddrB rfl ?_)
   refine WL.op rfl (opW.loadV rfl (hS.ld1 (b := b4) (cs := Enc.enc x.R) (by repeat constructor) (Ready.at_roles x.R)) ?_)
   refine WL.op rfl (opW.call (written_ok _ _ x.r (hx.ro.bel hS.old) (by omega)) rfl ?_)
   rintro v47 w ⟨hn47, hw⟩
   replace hS := hS.newOwn hw hn47.1 hn47.2
   refine WL.op rfl (opW.assignV (v := v47) rfl ?_)
   refine WL.nil ?_
   refine thenQ_n (hK11 _ _ ?_)
   refine WC.seq (fun K12 hK12 => ?_)
   refine WC.region ?_
   refine WL.op rfl (opW.assignB rfl ?_)
   refine WL.nil ?_
   refine thenQ_n (hK12 _ _ ?_)
   refine WC.seq (fun K13 hK13 => ?_)
   refine WC.seq (fun K14 hK14 => ?_)
   refine WC.region ?_
   refine WL.op rfl (opW.assignI rfl ?_)
   refine WL.nil ?_
   refine thenQ_n (hK14 _ _ ?_)
   refine WC.block ?_
   refine WC.loop (fun m f w => ∃ (i : Nat) (b : Bool), Fits [(0, vl), (5, .pointer (some ⟨b5, 0, none⟩)), (7, .pointer (some ⟨p, 0, none⟩)), (9, .pointer (some ⟨p2, 0, none⟩)), (12, v47), (13, .bool b), (14, .int .i64 (i : Int))] f ∧ St w0 [ownE v47 57 (wrL x.r), stE p (nextF d x), stE p2 (⟨r2, d.kvs⟩ : StD), blkE b5 (Enc.enc k) 57] w ∧ notIn b k (wrL x.r) i ∧ i ≤ (wrL x.r).length ∧ m = (wrL x.r).length - i) ((wrL x.r).length) ?_ ?_
   ·
    exact ⟨0, false, ⟨rfl, rfl, rfl, rfl, rfl, rfl, rfl, trivial⟩, (((((hS.pick (e := blkE b5 (Enc.enc k) 57) (by repeat constructor)).pick (e := stE p2 (⟨r2, d.kvs⟩ : StD)) (by repeat constructor)).pick (e := stE p (nextF d x)) (by repeat constructor)).pick (e := ownE v47 57 (wrL x.r)) (by repeat constructor)).sub (by repeat with_reducible first | exact su1 _ | exact su2 _ | refine su3 ?_ | refine su4 ?_)), notIn_0 _ _ _, Nat.zero_le _, rfl⟩
   ·
    rintro m f w ⟨i, b, hfit, hS, hni, hi0, hm⟩
    refine WC.fits _ hfit (fun g => ?_)
    clear hfit
    refine WC.seq (fun K15 hK15 => ?_)
    refine WC.seq (fun K16 hK16 => ?_)
    refine WC.region ?_
    refine WL.op rfl (opW.moveI rfl ?_)
    refine WL.op rfl (opW.moveV (v := v47) rfl ?_)
    refine WL.op rfl (opW.lenV rfl ((hS.sl (v := v47) (xs := (wrL x.r)) (by repeat constructor))) ?_)
    refine WL.op rfl (opW.lss rfl rfl ?_)
    refine WL.nil ?_
    refine thenQ_n (hK16 _ _ ?_)
    refine WC.cond _ rfl (fun hc2 => ?_) (fun hc2 => ?_)
    ·
     have hr2 := hc2
     try simp only [sq1,sq2,sq3,sq4,sq5,sq6,sq7,sq8,sq9,sq0] at hc2
     have hil : i < (wrL x.r).length := by omega
     refine WC.skip ?_
     refine thenQ_n (hK15 _ _ ?_)
     refine WC.seq (fun K17 hK17 => ?_)
     refine WC.block ?_
     refine WC.draw 10 (.look 0 (.look 1 (.look 2 (.look 3 (.look 4 (.look 5 (.look 6 (.look 7 (.look 8 (.look 9 .nil)))))))))) (by kernel_rfl) (fun _ _ _ h => h) (fun w1 hw1 => ?_)
     replace hS := hS.bel hw1
     have hS1 := hS
     have hT := St.start w1
     refine ML.look rfl rfl rfl (fun w hw => (by have hS := hS1.bel hw; exact opW.moveB rfl ⟨rfl, rfl⟩)) ?_
     refine ML.look rfl rfl rfl (fun w hw => (by have hS := hS1.bel hw; exact opW.moveB rfl ⟨rfl, rfl⟩)) ?_
     refine ML.lookG  _ 55 rfl rfl rfl rfl rfl rfl (fun hg56 w hw => (by have hS := hS1.bel hw; exact opW.moveV (v := v47) rfl ⟨rfl, rfl⟩)) ?_
     refine ML.lookG  _ 55 rfl rfl rfl rfl rfl rfl (fun hg57 w hw => (by have hS := hS1.bel hw; exact opW.moveI rfl ⟨rfl, rfl⟩)) ?_
     refine ML.lookG  _ 55 rfl rfl rfl rfl rfl rfl (fun hg58 w hw => (by have hS := hS1.bel hw; exact opW.idxV (by first | exact gv_of rfl hg58 | rfl) ((hS.sl (v := v47) (xs := (wrL x.r)) (by repeat constructor))) (by first | exact gv_of rfl hg58 | rfl) (by omega) ⟨rfl, rfl⟩)) ?_
     refine ML.lookG (E := (.agg (Enc.enc (wrL x.r)[i]))) _ 55 rfl rfl rfl rfl rfl rfl (fun hg59 w hw => (by have hS := hS1.bel hw; exact opW.loadV (by first | exact gv_of rfl hg59 | rfl) (((hS.sl (v := v47) (xs := (wrL x.r)) (by repeat constructor)).isPt hil).ldA (Enc.size_eq (wrL x.r)[i])) ⟨rfl, rfl⟩)) ?_
     refine ML.lookG (E := (.agg (Enc.enc k))) _ 55 rfl rfl rfl rfl rfl rfl (fun hg60 w hw => (by have hS := hS1.bel hw; exact opW.loadV rfl (hS.ldA (b := b5) (cs := Enc.enc k) (by repeat constructor) (Enc.size_eq k)) ⟨rfl, rfl⟩)) ?_
     refine ML.lookG  _ 55 rfl rfl rfl rfl rfl rfl (fun hg61 w hw => (by have hS := hS1.bel hw; exact opW.eqlE (by first | exact gv_of rfl hg61 | rfl) (by first | exact gv_of rfl hg61 | rfl) ⟨rfl, rfl⟩)) ?_
     refine ML.look rfl rfl rfl (fun w hw => (by have hS := hS1.bel hw; exact opW.pickOr rfl rfl (by first | rfl) ⟨rfl, rfl⟩)) ?_
     refine ML.look rfl rfl rfl (fun w hw => (by have hS := hS1.bel hw; exact opW.assignB rfl ⟨rfl, rfl⟩)) ?_
     refine ML.nil ?_
     refine blockQ_n ?_
     refine thenQ_n (hK17 _ _ ?_)
     refine WC.region ?_
     refine WL.op rfl (opW.moveI rfl ?_)
     refine WL.op rfl (opW.add rfl rfl (wrap_i64 (by omega)) ?_)
     refine WL.op rfl (opW.assignI rfl ?_)
     refine WL.nil ?_
     refine thenQ_n ?_
     exact ⟨(wrL x.r).length - (i + 1), by omega, i + 1, _, ⟨rfl, rfl, rfl, rfl, rfl, rfl, congrArg (Value.int .i64) (by omega), trivial⟩, hS.sub (by repeat with_reducible first | exact su1 _ | exact su2 _ | refine su3 ?_ | refine su4 ?_), notIn_step hni hil, by omega, rfl⟩
    ·
     have hr2 := hc2
     try simp only [sq1,sq2,sq3,sq4,sq5,sq6,sq7,sq8,sq9,sq0] at hc2
     have hil : (wrL x.r).length ≤ i := by omega
     refine WC.exit ?_
     refine thenQ_e ?_
     refine thenQ_e ?_
     refine blockQ_hit ?_
     refine thenQ_n (hK13 _ _ ?_)
     refine WC.seq (fun K18 hK18 => ?_)
     refine WC.seq (fun K19 hK19 => ?_)
     refine WC.region ?_
     refine WL.op rfl (opW.assignI rfl ?_)
     refine WL.nil ?_
     refine thenQ_n (hK19 _ _ ?_)
     refine WC.block ?_
     refine WC.loop (fun m f w => ∃ (k1 : Nat), Fits [(0, vl), (5, .pointer (some ⟨b5, 0, none⟩)), (7, .pointer (some ⟨p, 0, none⟩)), (9, .pointer (some ⟨p2, 0, none⟩)), (12, v47), (13, .bool b), (15, .int .i64 (k1 : Int))] f ∧ St w0 [ownE v47 57 (wrL x.r), stE p (nextF d x), stE p2 (⟨r2, d.kvs⟩ : StD), blkE b5 (Enc.enc k) 57] w ∧ k1 ≤ l.length ∧ m = l.length - k1) (l.length) ?_ ?_
     ·
      exact ⟨0, ⟨rfl, rfl, rfl, rfl, rfl, rfl, rfl, trivial⟩, (((((hS.pick (e := blkE b5 (Enc.enc k) 57) (by repeat constructor)).pick (e := stE p2 (⟨r2, d.kvs⟩ : StD)) (by repeat constructor)).pick (e := stE p (nextF d x)) (by repeat constructor)).pick (e := ownE v47 57 (wrL x.r)) (by repeat constructor)).sub (by repeat with_reducible first | exact su1 _ | exact su2 _ | refine su3 ?_ | refine su4 ?_)), Nat.zero_le _, rfl⟩
     ·
      rintro m f w ⟨k1, hfit, hS, hk0, hm⟩
      refine WC.fits _ hfit (fun g => ?_)
      clear hfit
      refine WC.seq (fun K20 hK20 => ?_)
      refine WC.seq (fun K21 hK21 => ?_)
      refine WC.region ?_
      refine WL.op rfl (opW.moveI rfl ?_)
      refine WL.op rfl (opW.moveV (v := vl) rfl ?_)
      refine WL.op rfl (opW.lenV rfl ((hl.bel hS.old)) ?_)
      refine WL.op rfl (opW.lss rfl rfl ?_)
      refine WL.nil ?_
      refine thenQ_n (hK21 _ _ ?_)
      refine WC.cond _ rfl (fun hc3 => ?_) (fun hc3 => ?_)
      ·
       have hr3 := hc3
       try simp only [sq1,sq2,sq3,sq4,sq5,sq6,sq7,sq8,sq9,sq0] at hc3
       have hkl : k1 < l.length := by omega
       refine WC.skip ?_
       refine thenQ_n (hK20 _ _ ?_)
       refine WC.seq (fun K22 hK22 => ?_)
       refine WC.block ?_
       refine WC.seq (fun K23 hK23 => ?_)
       refine WC.region ?_
       refine WL.op rfl (opW.moveV (v := vl) rfl ?_)
       refine WL.op rfl (opW.moveI rfl ?_)
       refine WL.op rfl (opW.idxV rfl ((hl.bel hS.old)) rfl (by omega) ?_)
       refine WL.op rfl (opW.fieldAddr rfl ((hl.bel hS.old).isP hkl) ?_)
       refine WL.op rfl (opW.loadV rfl (Ld.ptA ((hl.bel hS.old).isPt hkl) 0 (Holding.ex_key _) (by rw [Enc.size_eq]; decide)) ?_)
       refine WL.op rfl (opW.allocA hS ?_)
       intro b16 w _ hS
       refine WL.op0 (opW.storeE hS rfl rfl (by repeat constructor) (by first | rfl | exact Enc.size_eq _) ?_)
       intro w hS; replace hS := hS _ (by repeat constructor)
       refine WL.nil ?_
       refine thenQ_n (hK23 _ _ ?_)
       refine WC.seq (fun K24 hK24 => ?_)
       refine WC.region ?_
       refine WL.op rfl (opW.assignB rfl ?_)
       refine WL.nil ?_
       refine thenQ_n (hK24 _ _ ?_)
       refine WC.seq (fun K25 hK25 => ?_)
       refine WC.seq (fun K26 hK26 => ?_)
       refine WC.region ?_
       refine WL.op rfl (opW.assignI rfl ?_)
       refine WL.nil ?_
       refine thenQ_n (hK26 _ _ ?_)
       refine WC.block ?_
       refine WC.loop (fun q f w => ∃ (j : Nat) (c : Bool), Fits [(0, vl), (5, .pointer (some ⟨b5, 0, none⟩)), (7, .pointer (some ⟨p, 0, none⟩)), (9, .pointer (some ⟨p2, 0, none⟩)), (12, v47), (13, .bool b), (15, .int .i64 (k1 : Int)), (16, .pointer (some ⟨b16, 0, none⟩)), (17, .bool c), (18, .int .i64 (j : Int))] f ∧ St w0 [blkE b16 (Enc.enc l[k1].key) 57, ownE v47 57 (wrL x.r), stE p (nextF d x), stE p2 (⟨r2, d.kvs⟩ : StD), blkE b5 (Enc.enc k) 57] w ∧ notIn c l[k1].key (wrL x.r) j ∧ j ≤ (wrL x.r).length ∧ q = (wrL x.r).length - j) ((wrL x.r).length) ?_ ?_
       ·
        exact ⟨0, false, ⟨rfl, rfl, rfl, rfl, rfl, rfl, rfl, rfl, rfl, rfl, trivial⟩, hS.sub (by repeat with_reducible first | exact su1 _ | exact su2 _ | refine su3 ?_ | refine su4 ?_), notIn_0 _ _ _, Nat.zero_le _, rfl⟩
       ·
        rintro q f w ⟨j, c, hfit, hS, hnj, hj0, hm2⟩
        refine WC.fits _ hfit (fun g => ?_)
        clear hfit
        refine WC.seq (fun K27 hK27 => ?_)
        refine WC.seq (fun K28 hK28 => ?_)
        refine WC.region ?_
        refine WL.op rfl (opW.moveI rfl ?_)
        refine WL.op rfl (opW.moveV (v := v47) rfl ?_)
        refine WL.op rfl (opW.lenV rfl ((hS.sl (v := v47) (xs := (wrL x.r)) (by repeat constructor))) ?_)
        refine WL.op rfl (opW.lss rfl rfl ?_)
        refine WL.nil ?_
        refine thenQ_n (hK28 _ _ ?_)
        refine WC.cond _ rfl (fun hc4 => ?_) (fun hc4 => ?_)
        ·
         have hr4 := hc4
         try simp only [sq1,sq2,sq3,sq4,sq5,sq6,sq7,sq8,sq9,sq0] at hc4
         have hjl : j < (wrL x.r).length := by omega
         refine WC.skip ?_
         refine thenQ_n (hK27 _ _ ?_)
         refine WC.seq (fun K29 hK29 => ?_)
         refine WC.block ?_
         refine WC.draw 10 (.look 0 (.look 1 (.look 2 (.look 3 (.look 4 (.look 5 (.look 6 (.look 7 (.look 8 (.look 9 .nil)))))))))) (by kernel_rfl) (fun _ _ _ h => h) (fun w1 hw1 => ?_)
         replace hS := hS.bel hw1
         have hS1 := hS
         have hT := St.start w1
         refine ML.look rfl rfl rfl (fun w hw => (by have hS := hS1.bel hw; exact opW.moveB rfl ⟨rfl, rfl⟩)) ?_
         refine ML.look rfl rfl rfl (fun w hw => (by have hS := hS1.bel hw; exact opW.moveB rfl ⟨rfl, rfl⟩)) ?_
         refine ML.lookG  _ 81 rfl rfl rfl rfl rfl rfl (fun hg82 w hw => (by have hS := hS1.bel hw; exact opW.moveV (v := v47) rfl ⟨rfl, rfl⟩)) ?_
         refine ML.lookG  _ 81 rfl rfl rfl rfl rfl rfl (fun hg83 w hw => (by have hS := hS1.bel hw; exact opW.moveI rfl ⟨rfl, rfl⟩)) ?_
         refine ML.lookG  _ 81 rfl rfl rfl rfl rfl rfl (fun hg84 w hw => (by have hS := hS1.bel hw; exact opW.idxV (by first | exact gv_of rfl hg84 | rfl) ((hS.sl (v := v47) (xs := (wrL x.r)) (by repeat constructor))) (by first | exact gv_of rfl hg84 | rfl) (by omega) ⟨rfl, rfl⟩)) ?_
         refine ML.lookG (E := (.agg (Enc.enc (wrL x.r)[j]))) _ 81 rfl rfl rfl rfl rfl rfl (fun hg85 w hw => (by have hS := hS1.bel hw; exact opW.loadV (by first | exact gv_of rfl hg85 | rfl) (((hS.sl (v := v47) (xs := (wrL x.r)) (by repeat constructor)).isPt hjl).ldA (Enc.size_eq (wrL x.r)[j])) ⟨rfl, rfl⟩)) ?_
         refine ML.lookG (E := (.agg (Enc.enc l[k1].key))) _ 81 rfl rfl rfl rfl rfl rfl (fun hg86 w hw => (by have hS := hS1.bel hw; exact opW.loadV rfl (hS.ldA (b := b16) (cs := Enc.enc l[k1].key) (by repeat constructor) (Enc.size_eq _)) ⟨rfl, rfl⟩)) ?_
         refine ML.lookG  _ 81 rfl rfl rfl rfl rfl rfl (fun hg87 w hw => (by have hS := hS1.bel hw; exact opW.eqlE (by first | exact gv_of rfl hg87 | rfl) (by first | exact gv_of rfl hg87 | rfl) ⟨rfl, rfl⟩)) ?_
         refine ML.look rfl rfl rfl (fun w hw => (by have hS := hS1.bel hw; exact opW.pickOr rfl rfl (by first | rfl) ⟨rfl, rfl⟩)) ?_
         refine ML.look rfl rfl rfl (fun w hw => (by have hS := hS1.bel hw; exact opW.assignB rfl ⟨rfl, rfl⟩)) ?_
         refine ML.nil ?_
         refine blockQ_n ?_
         refine thenQ_n (hK29 _ _ ?_)
         refine WC.region ?_
         refine WL.op rfl (opW.moveI rfl ?_)
         refine WL.op rfl (opW.add rfl rfl (wrap_i64 (by omega)) ?_)
         refine WL.op rfl (opW.assignI rfl ?_)
         refine WL.nil ?_
         refine thenQ_n ?_
         exact ⟨(wrL x.r).length - (j + 1), by omega, j + 1, _, ⟨rfl, rfl, rfl, rfl, rfl, rfl, rfl, rfl, rfl, congrArg (Value.int .i64) (by omega), trivial⟩, hS.sub (by repeat with_reducible first | exact su1 _ | exact su2 _ | refine su3 ?_ | refine su4 ?_), notIn_step hnj hjl, by omega, rfl⟩
        ·
         have hr4 := hc4
         try simp only [sq1,sq2,sq3,sq4,sq5,sq6,sq7,sq8,sq9,sq0] at hc4
         have hjl : (wrL x.r).length ≤ j := by omega
         refine WC.exit ?_
         refine thenQ_e ?_
         refine thenQ_e ?_
         refine blockQ_hit ?_
         refine thenQ_n (hK25 _ _ ?_)
         refine WC.seq (fun K30 hK30 => ?_)
         refine WC.draw 11 (.look 0 (.look 1 (.look 2 (.look 3 (.look 4 (.look 6 (.look 7 (.one 5 (.one 8 (.look 9 (.look 10 .nil))))))))))) (by kernel_rfl) (fun _ _ _ h => h) (fun w1 hw1 => ?_)
         replace hS := hS.bel hw1
         have hS1 := hS
         have hT := St.start w1
         refine ML.look rfl rfl rfl (fun w hw => (by have hS := hS1.bel hw; exact opW.moveB rfl ⟨rfl, rfl⟩)) ?_
         refine ML.look rfl rfl rfl (fun w hw => (by have hS := hS1.bel hw; exact opW.not rfl ⟨rfl, rfl⟩)) ?_
         refine ML.look rfl rfl rfl (fun w hw => (by have hS := hS1.bel hw; exact opW.moveB rfl ⟨rfl, rfl⟩)) ?_
         refine ML.lookG  _ 91 rfl rfl rfl rfl rfl rfl (fun hg92 w hw => (by have hS := hS1.bel hw; exact opW.moveV (v := .pointer (some ⟨p, 0, none⟩)) rfl ⟨rfl, rfl⟩)) ?_
         refine ML.lookG (E := (.agg (Enc.enc l[k1].key))) _ 91 rfl rfl rfl rfl rfl rfl (fun hg93 w hw => (by have hS := hS1.bel hw; exact opW.loadV rfl (hS.ldA (b := b16) (cs := Enc.enc l[k1].key) (by repeat constructor) (Enc.size_eq _)) ⟨rfl, rfl⟩)) ?_
         refine ML.lookG  _ 91 rfl rfl rfl rfl rfl rfl (fun hg95 w hw => (by have hS := hS1.bel hw; exact opW.moveV (v := .pointer (some ⟨p2, 0, none⟩)) rfl ⟨rfl, rfl⟩)) ?_
         refine ML.lookG (E := (.agg (Enc.enc l[k1].key))) _ 91 rfl rfl rfl rfl rfl rfl (fun hg96 w hw => (by have hS := hS1.bel hw; exact opW.loadV rfl (hS.ldA (b := b16) (cs := Enc.enc l[k1].key) (by repeat constructor) (Enc.size_eq _)) ⟨rfl, rfl⟩)) ?_
         refine ML.oneG ((.agg (Enc.enc ((nextF d x).get l[k1].key)))) _ 91 hT.old rfl rfl rfl rfl rfl rfl (fun hg94 => opW.call (get13 _ p (nextF d x) l[k1].key (hS.stAt (by repeat constructor))) (args2 (by first | exact gv_of rfl hg94 | rfl) (by first | exact gv_of rfl hg94 | rfl)) (fun _ _ h => h)) (fun w hw => ?_)
         replace hT := hT.bel hw
         have hS := hS1.merge hT
         try simp only [List.cons_append, List.nil_append] at hS
         refine ML.oneG ((.agg (Enc.enc (d.get l[k1].key)))) _ 91 hT.old rfl rfl rfl rfl rfl rfl (fun hg97 => opW.call (get13 _ p2 (⟨r2, d.kvs⟩ : StD) l[k1].key (hS.stAt (by repeat constructor))) (args2 (by first | exact gv_of rfl hg97 | rfl) (by first | exact gv_of rfl hg97 | rfl)) (fun _ _ h => h)) (fun w hw => ?_)
         replace hT := hT.bel hw
         have hS := hS1.merge hT
         try simp only [List.cons_append, List.nil_append] at hS
         refine ML.lookG  _ 91 rfl rfl rfl rfl rfl rfl (fun hg98 w hw => (by have hS := hS1.bel hw; exact opW.neqE (by first | exact gv_of rfl hg98 | rfl) (by first | exact gv_of rfl hg98 | rfl) ⟨rfl, rfl⟩)) ?_
         refine ML.look rfl rfl rfl (fun w hw => (by have hS := hS1.bel hw; exact opW.pickAnd rfl (by first | rfl) rfl ⟨rfl, rfl⟩)) ?_
         refine ML.nil ?_
         refine thenQ_n (hK30 _ _ ?_)
         refine WC.cond _ rfl (fun hc5 => ?_) (fun hc5 => ?_)
         ·
          have hr5 := hc5
          try simp only [sq1,sq2,sq3,sq4,sq5,sq6,sq7,sq8,sq9,sq0] at hc5
          exfalso
          have hz := noKey hok hnj hjl
          simp only [Bool.and_eq_true, Bool.not_eq_true', decide_eq_false_iff_not] at hr5
          rw [hr5.1] at hz
          exact hr5.2 (by simpa using hz)
         ·
          have hr5 := hc5
          try simp only [sq1,sq2,sq3,sq4,sq5,sq6,sq7,sq8,sq9,sq0] at hc5
          refine WC.skip ?_
          refine blockQ_n ?_
          refine thenQ_n (hK22 _ _ ?_)
          refine WC.region ?_
          refine WL.op rfl (opW.moveI rfl ?_)
          refine WL.op rfl (opW.add rfl rfl (wrap_i64 (by omega)) ?_)
          refine WL.op rfl (opW.assignI rfl ?_)
          refine WL.nil ?_
          refine thenQ_n ?_
          exact ⟨l.length - (k1 + 1), by omega, k1 + 1, ⟨rfl, rfl, rfl, rfl, rfl, rfl, congrArg (Value.int .i64) (by omega), trivial⟩, (((((hS.pick (e := blkE b5 (Enc.enc k) 57) (by repeat constructor)).pick (e := stE p2 (⟨r2, d.kvs⟩ : StD)) (by repeat constructor)).pick (e := stE p (nextF d x)) (by repeat constructor)).pick (e := ownE v47 57 (wrL x.r)) (by repeat constructor)).sub (by repeat with_reducible first | exact su1 _ | exact su2 _ | refine su3 ?_ | refine su4 ?_)), by omega, rfl⟩
      ·
       have hr3 := hc3
       try simp only [sq1,sq2,sq3,sq4,sq5,sq6,sq7,sq8,sq9,sq0] at hc3
       refine WC.exit ?_
       refine thenQ_e ?_
       refine thenQ_e ?_
       refine blockQ_hit ?_
       refine thenQ_n (hK18 _ _ ?_)
       refine WC.seq (fun K31 hK31 => ?_)
       refine WC.draw 14 (.look 0 (.look 1 (.look 2 (.look 3 (.look 5 (.look 6 (.one 4 (.one 7 (.look 8 (.look 9 (.look 10 (.one 11 (.look 12 (.look 13 .nil)))))))))))))) (by kernel_rfl) (fun _ _ _ h => h) (fun w1 hw1 => ?_)
       replace hS := hS.bel hw1
       have hS1 := hS
       have hT := St.start w1
       refine ML.look rfl rfl rfl (fun w hw => (by have hS := hS1.bel hw; exact opW.moveB rfl ⟨rfl, rfl⟩)) ?_
       refine ML.look rfl rfl rfl (fun w hw => (by have hS := hS1.bel hw; exact opW.moveB rfl ⟨rfl, rfl⟩)) ?_
       refine ML.lookG  _ 101 rfl rfl rfl rfl rfl rfl (fun hg102 w hw => (by have hS := hS1.bel hw; exact opW.moveV (v := .pointer (some ⟨p, 0, none⟩)) rfl ⟨rfl, rfl⟩)) ?_
       refine ML.lookG (E := (.agg (Enc.enc k))) _ 101 rfl rfl rfl rfl rfl rfl (fun hg103 w hw => (by have hS := hS1.bel hw; exact opW.loadV rfl (hS.ldA (b := b5) (cs := Enc.enc k) (by repeat constructor) (Enc.size_eq k)) ⟨rfl, rfl⟩)) ?_
       refine ML.lookG  _ 101 rfl rfl rfl rfl rfl rfl (fun hg105 w hw => (by have hS := hS1.bel hw; exact opW.moveV (v := .pointer (some ⟨p2, 0, none⟩)) rfl ⟨rfl, rfl⟩)) ?_
       refine ML.lookG (E := (.agg (Enc.enc k))) _ 101 rfl rfl rfl rfl rfl rfl (fun hg106 w hw => (by have hS := hS1.bel hw; exact opW.loadV rfl (hS.ldA (b := b5) (cs := Enc.enc k) (by repeat constructor) (Enc.size_eq k)) ⟨rfl, rfl⟩)) ?_
       refine ML.oneG ((.agg (Enc.enc ((nextF d x).get k)))) _ 101 hT.old rfl rfl rfl rfl rfl rfl (fun hg104 => opW.call (get13 _ p (nextF d x) k (hS.stAt (by repeat constructor))) (args2 (by first | exact gv_of rfl hg104 | rfl) (by first | exact gv_of rfl hg104 | rfl)) (fun _ _ h => h)) (fun w hw => ?_)
       replace hT := hT.bel hw
       have hS := hS1.merge hT
       try simp only [List.cons_append, List.nil_append] at hS
       refine ML.oneG ((.agg (Enc.enc (d.get k)))) _ 101 hT.old rfl rfl rfl rfl rfl rfl (fun hg107 => opW.call (get13 _ p2 (⟨r2, d.kvs⟩ : StD) k (hS.stAt (by repeat constructor))) (args2 (by first | exact gv_of rfl hg107 | rfl) (by first | exact gv_of rfl hg107 | rfl)) (fun _ _ h => h)) (fun w hw => ?_)
       replace hT := hT.bel hw
       have hS := hS1.merge hT
       try simp only [List.cons_append, List.nil_append] at hS
       refine ML.lookG  _ 101 rfl rfl rfl rfl rfl rfl (fun hg108 w hw => (by have hS := hS1.bel hw; exact opW.eqlE (by first | exact gv_of rfl hg108 | rfl) (by first | exact gv_of rfl hg108 | rfl) ⟨rfl, rfl⟩)) ?_
       refine ML.look rfl rfl rfl (fun w hw => (by have hS := hS1.bel hw; exact opW.pickOrK true rfl rfl (by rfl) (noKey hok hni hil) ⟨rfl, rfl⟩)) ?_
       refine ML.look rfl rfl rfl (fun w hw => (by have hS := hS1.bel hw; exact opW.moveB rfl ⟨rfl, rfl⟩)) ?_
       refine ML.oneT 110 rfl rfl rfl rfl rfl rfl (opW.call (lives16 _ (hg.bel hS.old)) rfl ?_)
       rintro _ w ⟨rfl, hw⟩; replace hT := hT.bel hw
       refine ⟨hT.old, ?_⟩
       have hS := hS1.merge hT
       try simp only [List.cons_append, List.nil_append] at hS
       refine ML.look rfl rfl rfl (fun w hw => (by have hS := hS1.bel hw; exact opW.pickT rfl rfl ⟨rfl, rfl⟩)) ?_
       refine ML.look rfl rfl rfl (fun w hw => (by have hS := hS1.bel hw; exact opW.assignB rfl ⟨rfl, rfl⟩)) ?_
       refine ML.nil ?_
       refine thenQ_n (hK31 _ _ ?_)
       refine WC.ret ?_
       refine bodyQ_ret (.tmpB rfl .nil) ?_
       exact ⟨rfl, hS.old⟩

end Go.Fer
