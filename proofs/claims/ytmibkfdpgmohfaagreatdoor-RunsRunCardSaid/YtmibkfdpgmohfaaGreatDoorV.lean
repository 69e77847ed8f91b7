/- RunsRun -/
import Derived.Test.YtmibkfdpgmohfaaGreatDoorB
import Derived.Test.YtmibkfdpgmohfaaGreatDoorX
set_option linter.all false
namespace Go.Fer
open Go Go.Proofs Go.RowKit

theorem RunIs.same {R R2 : Ready} {r : List Role} {qs : List PI} {l : List Account} {ins ins2 : List Instr} {o o2 : Outcome} {e e2 : Int} {ch ch2 : List Holding} (h : RunIs R r qs l ins o e ch) (h2 : RunIs R2 r qs l ins2 o2 e2 ch2) (hb : R2.budget = R.budget) (hf : R2.fee = R.fee) (hp : badArg r l ins2 = badArg r l ins) :
  e2 = e ∧ ch2 = ch ∧ o2.fail = o.fail ∧ o2.at_ = o.at_ ∧ o2.units = o.units ∧ o2.fee = o.fee ∧ o2.space = o.space := by
 have hz : runZ R2 r qs l = runZ R r qs l := by unfold runZ; rw [hb]
 rcases h with ⟨rfl, b1, rfl, rfl⟩ | ⟨rfl, b1, s, rfl, rfl⟩
 ·rcases h2 with ⟨rfl, b2, rfl, rfl⟩ | ⟨rfl, b2, s2, rfl, rfl⟩
  ·exact ⟨rfl, rfl, rfl, rfl, rfl, rfl, rfl⟩
  ·rw [hp, b1] at b2; cases b2
 ·rcases h2 with ⟨rfl, b2, rfl, rfl⟩ | ⟨rfl, b2, s2, rfl, rfl⟩
  ·rw [hp, b1] at b2; cases b2
  ·refine ⟨rfl, by simp only [accF, hz], ?_, ?_, ?_, ?_, ?_⟩ <;> unfold outF <;> simp only [hz, hf]
theorem bad_zip {w : World} {r : List Role} {l : List Account} {ins : List Instr} {li : List (BT × BT)} {x : TC} (h : IsIs w ins x.m.ins) (ht : Tws li x.m.ins) : badArg r l (List.zipWith tI ins li) = badArg r l ins := by
 unfold badArg
 congr 1
 have hl : ins.length = li.length := by rw [h.1, ht.1]
 clear ht h
 induction ins generalizing li with
 | nil => rfl
 | cons c ins ih =>
  cases li with
  | nil => cases hl
  | cons p li =>
   simp only [List.zipWith_cons_cons, List.any_cons]
   rw [ih (by simpa using hl)]
   rfl

set_option maxRecDepth 20000 in
set_option maxHeartbeats 2000000 in
theorem run_law (w0 : World) (R : Ready) (sl : SlV) (l : List Account) (hR0 : R.okz w0) (hl : SlR w0 sl.v l) (hlw : ∀ y ∈ l, okW y) (hg : ErrLaid w0) : Ret Tryz.prog 3 #[.agg (Enc.enc R), sl.v] w0 (fun r w' => r = .bool true ∧ Bel w0 w') := by
 refine Ret.enter (args := [.agg (Enc.enc R), sl.v]) Tryz.func3 rfl Tryz.ntmps3 Tryz.results3 rfl ?_
 have hS := St.start w0
 obtain ⟨bs, sg, ks, ins, lks, r, hR⟩ := hR0.is
 obtain ⟨ci, cl, hx⟩ := hR.isR
 refine WC.seq (fun K1 hK1 => ?_)
 refine WC.region ?_
 refine WL.op rfl (opW.boxA hS rfl ?_)
 intro b2 w _ hS
 refine WL.op rfl (opW.assignB rfl ?_)
 refine WL.nil ?_
 refine thenQ_n (hK1 _ _ ?_)
 refine WC.seq (fun K2 hK2 => ?_)
 refine WC.seq (fun K3 hK3 => ?_)
 refine WC.region ?_
 refine WL.op rfl (opW.moveV (v := sl.v) rfl ?_)
 refine WL.op rfl (opW.lenV rfl ((hl.bel hS.old)) ?_)
 refine WL.op rfl (opW.gtr rfl rfl ?_)
 refine WL.op rfl (opW.moveB rfl ?_)
 cases hcs17 : (decide ((300 : Int) < (l.length : Int))) with
 | true =>
  refine WL.gF 17 rfl rfl rfl rfl ?_
  refine WL.gF 17 rfl rfl rfl rfl ?_
  refine WL.op rfl (opW.pickT rfl rfl ?_)
  refine WL.nil ?_
  refine thenQ_n (hK3 _ _ ?_)
  refine WC.cond _ rfl (fun hc0 => ?_) (fun hc0 => ?_)
  ·
   have hr0 := hc0
   try simp only [sq1,sq2,sq3,sq4,sq5,sq6,sq7,sq8,sq9,sq0] at hc0
   refine WC.seq (fun K4 hK4 => ?_)
   refine WC.region ?_
   refine WL.op rfl (opW.call (lives15 _ (hg.bel hS.old)) rfl ?_)
   rintro _ w ⟨rfl, hw⟩; replace hS := hS.bel hw
   refine WL.op rfl (opW.assignB rfl ?_)
   refine WL.nil ?_
   refine thenQ_n (hK4 _ _ ?_)
   refine WC.ret ?_
   refine thenQ_r ?_
   refine bodyQ_ret (.tmpB rfl .nil) ?_
   exact ⟨rfl, hS.old⟩
  ·
   have hr0 := hc0
   try simp only [sq1,sq2,sq3,sq4,sq5,sq6,sq7,sq8,sq9,sq0] at hc0
   cases hr0
 | false =>
  refine WL.gT 17 rfl rfl rfl (WL.op rfl (opW.loadV rfl (hS.ldA (b := b2) (cs := Enc.enc R) (by repeat constructor) (Enc.size_eq R)) ?_))
  refine WL.gT 17 rfl rfl rfl (WL.op rfl (opW.call (great15 _ R bs sg ks ins lks r (hR.bel hS.old)) rfl ?_))
  rintro _ w ⟨bb, rfl, hbb, hw⟩; replace hS := hS.bel hw
  refine WL.op rfl (opW.pickT rfl rfl ?_)
  refine WL.nil ?_
  refine thenQ_n (hK3 _ _ ?_)
  refine WC.cond _ rfl (fun hc0 => ?_) (fun hc0 => ?_)
  ·
   have hr0 := hc0
   try simp only [sq1,sq2,sq3,sq4,sq5,sq6,sq7,sq8,sq9,sq0] at hc0
   refine WC.seq (fun K5 hK5 => ?_)
   refine WC.region ?_
   refine WL.op rfl (opW.call (lives15 _ (hg.bel hS.old)) rfl ?_)
   rintro _ w ⟨rfl, hw⟩; replace hS := hS.bel hw
   refine WL.op rfl (opW.assignB rfl ?_)
   refine WL.nil ?_
   refine thenQ_n (hK5 _ _ ?_)
   refine WC.ret ?_
   refine thenQ_r ?_
   refine bodyQ_ret (.tmpB rfl .nil) ?_
   exact ⟨rfl, hS.old⟩
  ·
   have hr0 := hc0
   try simp only [sq1,sq2,sq3,sq4,sq5,sq6,sq7,sq8,sq9,sq0] at hc0
   have hsm := hbb hc0
   have hll : l.length ≤ 300 := by simp only [decide_eq_false_iff_not] at hcs17; omega
   have hrl2 := hsm.r
   have hil2 := hsm.i
   have hal := hsm.all
   unfold baseN at hal
   have hI := hx.t.2.ii
   have hLk := hx.t.2.ll
   have hsz : (⟨R.tx.m.v0, R.tx.m.header, ks, R.tx.m.recent, ci, cl⟩ : MC).size < 20000 := by
    unfold MC.size
    have e1 := insN_eq hI
    have e2 := lksN_eq hLk
    have e3 := hI.1
    have e4 := hLk.1
    simp only at e1 e2 e3 e4 ⊢
    omega
   obtain ⟨x, hxe⟩ : ∃ x : TC, (⟨sg, ⟨R.tx.m.v0, R.tx.m.header, ks, R.tx.m.recent, ci, cl⟩⟩ : TC) = x := ⟨_, rfl⟩
   have hsg : x.sigs.length ≤ 10000 := by rw [← hxe]; show sg.length ≤ _; omega
   replace hsz : x.m.size < 20000 := by rw [← hxe]; exact hsz
   rw [hxe] at hx
   replace hI := hx.t.2.ii
   replace hLk := hx.t.2.ll
   obtain ⟨hql, hin⟩ := piL_in hI
   have hbu : R.budget.units < 18446744073709551616 := by have := hR.bu; omega
   refine WC.skip ?_
   refine thenQ_n (hK2 _ _ ?_)
   refine WC.seq (fun K6 hK6 => ?_)
   refine WC.region ?_
   refine WL.op rfl (opW.loadV rfl (hS.ldA (b := b2) (cs := Enc.enc R) (by repeat constructor) (Enc.size_eq R)) ?_)
   refine WL.op rfl (opW.call (twinReady_ok _ R bs x ins lks r (hx.bel hS.old) (by omega) hsg hsz hrl2) rfl ?_)
   rintro u23 w ⟨bf, bc, rf, rc, sf, sc, kf, kc, iv, lv, li, ll, rfl, hbf, hrf, ⟨hv6, hcf0, huk, hcf, htw, htl⟩, hTw⟩; replace hS := hS.merge hTw; simp only [List.cons_append, List.nil_append] at hS
   refine WL.op rfl (opW.allocA hS ?_)
   intro b5 w _ hS
   refine WL.op0 (opW.storeE hS rfl rfl (by repeat constructor) (by first | rfl | exact Enc.size_eq _) ?_)
   intro w hS; replace hS := hS _ (by repeat constructor)
   have hmk : ∀ {w : World}, St w0 [tpE ll, ownE lv.v 64 (List.zipWith tL lks ll), tpE li, ownE iv.v 61 (List.zipWith tI ins li), ownE kf 62 (x.m.keys ++ [markK, markK, markK]), ownE sf 115 (x.sigs ++ [markS, markS, markS])] w → TwR w R.tx.m x.m ins lks kf kc iv lv li ll := fun h => ⟨huk, hcf, htw, htl, h.sl (v := kf) (xs := x.m.keys ++ [markK, markK, markK]) (by repeat constructor), h.sl (v := iv.v) (xs := (List.zipWith tI ins li)) (by repeat constructor), h.sl (v := lv.v) (xs := (List.zipWith tL lks ll)) (by repeat constructor), fun p hp => tp_read (h.all (tpE li) (Has.mem (by repeat constructor))).1 hp, fun p hp => tp_read (h.all (tpE ll) (Has.mem (by repeat constructor))).1 hp⟩
   have hTR : ∀ {w : World}, St w0 [ownE rf 91 (r ++ [markR, markR, markR]), tpE ll, ownE lv.v 64 (List.zipWith tL lks ll), tpE li, ownE iv.v 61 (List.zipWith tI ins li), ownE kf 62 (x.m.keys ++ [markK, markK, markK]), ownE sf 115 (x.sigs ++ [markS, markS, markS]), ownE bf 5 (bs ++ [165, 165, 165])] w → IsR w (⟨bc, (⟨sc, (⟨R.tx.m.v0, R.tx.m.header, kc, R.tx.m.recent, iv, lv⟩ : Message)⟩ : Tx), rc, R.budget, R.fee, R.cost, R.priority⟩ : Ready) bs x (List.zipWith tI ins li) (List.zipWith tL lks ll) r := fun {w} h => ⟨by show SlR w bc.v bs; rw [hbf.1]; exact SlR.head (h.sl (v := bf) (xs := bs ++ [165, 165, 165]) (by repeat constructor)) (by omega) (by rw [hbf.2]; omega), ⟨by show SlR w sc.v x.sigs; rw [hv6]; exact SlR.head (h.sl (v := sf) (xs := x.sigs ++ [markS, markS, markS]) (by repeat constructor)) (by omega) (by rw [hcf0]; omega), (hmk (h.sub (by repeat with_reducible first | exact su1 _ | exact su2 _ | refine su3 ?_ | refine su4 ?_))).isM (hx.t.2.bel h.old)⟩, by show SlR w rc.v r; rw [hrf.1]; exact SlR.head (h.sl (v := rf) (xs := r ++ [markR, markR, markR]) (by repeat constructor)) (by omega) (by rw [hrf.2]; omega)⟩
   have hbz : badArg r l (List.zipWith tI ins li) = badArg r l ins := bad_zip hI htw
   refine WL.nil ?_
   refine thenQ_n (hK6 _ _ ?_)
   refine WC.seq (fun K7 hK7 => ?_)
   refine WC.region ?_
   refine WL.op rfl (opW.moveV (v := sl.v) rfl ?_)
   refine WL.op rfl (opW.call (twinAccounts_ok _ sl.v l (hl.bel hS.old) (by omega)) rfl ?_)
   rintro v25 w ⟨af, hv25, hca, hn25, hw⟩; replace hS := hS.newOwn hw hn25.1 hn25.2
   obtain ⟨ac, rfl⟩ : ∃ s : SlV, v25 = s.v := (by rw [hv25]; exact (SlR.head (hS.sl (v := af) (xs := l ++ [markA, markA, markA]) (by repeat constructor)) (by omega) (by omega)).asV)
   refine WL.op rfl (opW.assignV (v := ac.v) rfl ?_)
   refine WL.nil ?_
   refine thenQ_n (hK7 _ _ ?_)
   refine WC.seq (fun K8 hK8 => ?_)
   refine WC.region ?_
   refine WL.op rfl (opW.loadV rfl (hS.ldA (b := b5) (cs := Enc.enc (⟨bc, (⟨sc, (⟨R.tx.m.v0, R.tx.m.header, kc, R.tx.m.recent, iv, lv⟩ : Message)⟩ : Tx), rc, R.budget, R.fee, R.cost, R.priority⟩ : Ready)) (by repeat constructor) (Enc.size_eq (⟨bc, (⟨sc, (⟨R.tx.m.v0, R.tx.m.header, kc, R.tx.m.recent, iv, lv⟩ : Message)⟩ : Tx), rc, R.budget, R.fee, R.cost, R.priority⟩ : Ready))) ?_)
   refine WL.op rfl (opW.moveV (v := ac.v) rfl ?_)
   refine WL.op rfl (opW.call (run_any _ (⟨bc, (⟨sc, (⟨R.tx.m.v0, R.tx.m.header, kc, R.tx.m.recent, iv, lv⟩ : Message)⟩ : Tx), rc, R.budget, R.fee, R.cost, R.priority⟩ : Ready) ac l r (List.zipWith tI ins li) (piL x) (hg.bel hS.old) (show SlR _ ac.v l from by rw [hv25]; exact SlR.head (hS.sl (v := af) (xs := l ++ [markA, markA, markA]) (by repeat constructor)) (by omega) (by omega)) (hTR (show St w0 [ownE rf 91 (r ++ [markR, markR, markR]), tpE ll, ownE lv.v 64 (List.zipWith tL lks ll), tpE li, ownE iv.v 61 (List.zipWith tI ins li), ownE kf 62 (x.m.keys ++ [markK, markK, markK]), ownE sf 115 (x.sigs ++ [markS, markS, markS]), ownE bf 5 (bs ++ [165, 165, 165])] _ from hS.sub (by repeat with_reducible first | exact su1 _ | exact su2 _ | refine su3 ?_ | refine su4 ?_))).ro (hTR (show St w0 [ownE rf 91 (r ++ [markR, markR, markR]), tpE ll, ownE lv.v 64 (List.zipWith tL lks ll), tpE li, ownE iv.v 61 (List.zipWith tI ins li), ownE kf 62 (x.m.keys ++ [markK, markK, markK]), ownE sf 115 (x.sigs ++ [markS, markS, markS]), ownE bf 5 (bs ++ [165, 165, 165])] _ from hS.sub (by repeat with_reducible first | exact su1 _ | exact su2 _ | refine su3 ?_ | refine su4 ?_))).t.2.i (piL_in (hTR (show St w0 [ownE rf 91 (r ++ [markR, markR, markR]), tpE ll, ownE lv.v 64 (List.zipWith tL lks ll), tpE li, ownE iv.v 61 (List.zipWith tI ins li), ownE kf 62 (x.m.keys ++ [markK, markK, markK]), ownE sf 115 (x.sigs ++ [markS, markS, markS]), ownE bf 5 (bs ++ [165, 165, 165])] _ from hS.sub (by repeat with_reducible first | exact su1 _ | exact su2 _ | refine su3 ?_ | refine su4 ?_))).t.2.ii).1 (piL_in (hTR (show St w0 [ownE rf 91 (r ++ [markR, markR, markR]), tpE ll, ownE lv.v 64 (List.zipWith tL lks ll), tpE li, ownE iv.v 61 (List.zipWith tI ins li), ownE kf 62 (x.m.keys ++ [markK, markK, markK]), ownE sf 115 (x.sigs ++ [markS, markS, markS]), ownE bf 5 (bs ++ [165, 165, 165])] _ from hS.sub (by repeat with_reducible first | exact su1 _ | exact su2 _ | refine su3 ?_ | refine su4 ?_))).t.2.ii).2 hbu (by omega) (by omega) hlw) rfl ?_)
   rintro _ w ⟨o1, e1, ch1, rfl, hn1, hO1, hw⟩; replace hS := hS.newOwn hw hn1.1 hn1.2
   refine WL.op rfl (opW.moveV (v := .tuple #[.agg (Enc.enc o1), .int .i64 e1]) rfl ?_)
   refine WL.op rfl (opW.extract rfl rfl ?_)
   refine WL.op rfl (opW.extract rfl rfl ?_)
   refine WL.op rfl (opW.allocA hS ?_)
   intro b7 w _ hS
   refine WL.op0 (opW.storeE hS rfl rfl (by repeat constructor) (by first | rfl | exact Enc.size_eq _) ?_)
   intro w hS; replace hS := hS _ (by repeat constructor)
   refine WL.op rfl (opW.assignI rfl ?_)
   refine WL.nil ?_
   refine thenQ_n (hK8 _ _ ?_)
   refine WC.seq (fun K9 hK9 => ?_)
   refine WC.region ?_
   refine WL.op rfl (opW.loadV rfl (hS.ldA (b := b2) (cs := Enc.enc R) (by repeat constructor) (Enc.size_eq R)) ?_)
   refine WL.op rfl (opW.moveV (v := sl.v) rfl ?_)
   refine WL.op rfl (opW.call (rrun_ok _ R sl.v l r ins (piL x) (hl.bel hS.old) (hx.ro.bel hS.old) (hx.t.2.i.bel hS.old) hql (fun k h h2 => (hin k h h2).bel hS.old) hbu (by omega) (by omega) hlw) rfl ?_)
   rintro _ w ⟨o2, e2, ch2, rfl, hn2, hO2, hw⟩; replace hS := hS.newOwn hw hn2.1 hn2.2
   refine WL.op rfl (opW.moveV (v := .tuple #[.agg (Enc.enc o2), .int .i64 e2]) rfl ?_)
   refine WL.op rfl (opW.extract rfl rfl ?_)
   refine WL.op rfl (opW.extract rfl rfl ?_)
   refine WL.op rfl (opW.allocA hS ?_)
   intro b9 w _ hS
   refine WL.op0 (opW.storeE hS rfl rfl (by repeat constructor) (by first | rfl | exact Enc.size_eq _) ?_)
   intro w hS; replace hS := hS _ (by repeat constructor)
   refine WL.op rfl (opW.assignI rfl ?_)
   refine WL.nil ?_
   refine thenQ_n (hK9 _ _ ?_)
   refine WC.seq (fun K10 hK10 => ?_)
   refine WC.region ?_
   refine WL.op rfl (opW.loadV rfl (hS.ldA (b := b5) (cs := Enc.enc (⟨bc, (⟨sc, (⟨R.tx.m.v0, R.tx.m.header, kc, R.tx.m.recent, iv, lv⟩ : Message)⟩ : Tx), rc, R.budget, R.fee, R.cost, R.priority⟩ : Ready)) (by repeat constructor) (Enc.size_eq (⟨bc, (⟨sc, (⟨R.tx.m.v0, R.tx.m.header, kc, R.tx.m.recent, iv, lv⟩ : Message)⟩ : Tx), rc, R.budget, R.fee, R.cost, R.priority⟩ : Ready))) ?_)
   refine WL.op rfl (opW.moveV (v := ac.v) rfl ?_)
   refine WL.op rfl (opW.call (run_any _ (⟨bc, (⟨sc, (⟨R.tx.m.v0, R.tx.m.header, kc, R.tx.m.recent, iv, lv⟩ : Message)⟩ : Tx), rc, R.budget, R.fee, R.cost, R.priority⟩ : Ready) ac l r (List.zipWith tI ins li) (piL x) (hg.bel hS.old) (show SlR _ ac.v l from by rw [hv25]; exact SlR.head (hS.sl (v := af) (xs := l ++ [markA, markA, markA]) (by repeat constructor)) (by omega) (by omega)) (hTR (show St w0 [ownE rf 91 (r ++ [markR, markR, markR]), tpE ll, ownE lv.v 64 (List.zipWith tL lks ll), tpE li, ownE iv.v 61 (List.zipWith tI ins li), ownE kf 62 (x.m.keys ++ [markK, markK, markK]), ownE sf 115 (x.sigs ++ [markS, markS, markS]), ownE bf 5 (bs ++ [165, 165, 165])] _ from hS.sub (by repeat with_reducible first | exact su1 _ | exact su2 _ | refine su3 ?_ | refine su4 ?_))).ro (hTR (show St w0 [ownE rf 91 (r ++ [markR, markR, markR]), tpE ll, ownE lv.v 64 (List.zipWith tL lks ll), tpE li, ownE iv.v 61 (List.zipWith tI ins li), ownE kf 62 (x.m.keys ++ [markK, markK, markK]), ownE sf 115 (x.sigs ++ [markS, markS, markS]), ownE bf 5 (bs ++ [165, 165, 165])] _ from hS.sub (by repeat with_reducible first | exact su1 _ | exact su2 _ | refine su3 ?_ | refine su4 ?_))).t.2.i (piL_in (hTR (show St w0 [ownE rf 91 (r ++ [markR, markR, markR]), tpE ll, ownE lv.v 64 (List.zipWith tL lks ll), tpE li, ownE iv.v 61 (List.zipWith tI ins li), ownE kf 62 (x.m.keys ++ [markK, markK, markK]), ownE sf 115 (x.sigs ++ [markS, markS, markS]), ownE bf 5 (bs ++ [165, 165, 165])] _ from hS.sub (by repeat with_reducible first | exact su1 _ | exact su2 _ | refine su3 ?_ | refine su4 ?_))).t.2.ii).1 (piL_in (hTR (show St w0 [ownE rf 91 (r ++ [markR, markR, markR]), tpE ll, ownE lv.v 64 (List.zipWith tL lks ll), tpE li, ownE iv.v 61 (List.zipWith tI ins li), ownE kf 62 (x.m.keys ++ [markK, markK, markK]), ownE sf 115 (x.sigs ++ [markS, markS, markS]), ownE bf 5 (bs ++ [165, 165, 165])] _ from hS.sub (by repeat with_reducible first | exact su1 _ | exact su2 _ | refine su3 ?_ | refine su4 ?_))).t.2.ii).2 hbu (by omega) (by omega) hlw) rfl ?_)
   rintro _ w ⟨o3, e3, ch3, rfl, hn3, hO3, hw⟩; replace hS := hS.newOwn hw hn3.1 hn3.2
   refine WL.op rfl (opW.moveV (v := .tuple #[.agg (Enc.enc o3), .int .i64 e3]) rfl ?_)
   refine WL.op rfl (opW.extract rfl rfl ?_)
   refine WL.op rfl (opW.extract rfl rfl ?_)
   refine WL.op rfl (opW.allocA hS ?_)
   intro b11 w _ hS
   refine WL.op0 (opW.storeE hS rfl rfl (by repeat constructor) (by first | rfl | exact Enc.size_eq _) ?_)
   intro w hS; replace hS := hS _ (by repeat constructor)
   refine WL.op rfl (opW.assignI rfl ?_)
   obtain ⟨d1, d2, d3, d4, d5, d6, d7⟩ := hO2.same hO1 rfl rfl hbz
   subst d1
   rw [d2] at hS
   refine WL.nil ?_
   refine thenQ_n (hK10 _ _ ?_)
   refine WC.seq (fun K11 hK11 => ?_)
   refine WC.region ?_
   refine WL.op rfl (opW.buildE (r := ((BookS.mk ⟨none, 0, 0⟩) : BookS)) (ps := BookS.parts ((BookS.mk ⟨none, 0, 0⟩) : BookS)) (BookS.enc_eq _) (by first | rfl | (simp only [sysK, az, enc_vset, enc_vz, Account.enc_eq, Account.parts, Role.enc_eq, Role.parts, Instr.enc_eq, Instr.parts, Ask.enc_eq, Ask.parts, Cut.enc_eq, Cut.parts, PairS.enc_eq, PairS.parts, RAsk.enc_eq, RAsk.parts, Header.enc_eq, Header.parts, Lookup.enc_eq, Lookup.parts, Message.enc_eq, Message.parts, Tx.enc_eq, Tx.parts, Budget.enc_eq, Budget.parts, Ready.enc_eq, Ready.parts, Holding.enc_eq, Holding.parts, Outcome.enc_eq, Outcome.parts, Running.enc_eq, Running.parts, StS.enc_eq, StS.parts, ShHolding.enc_eq, ShHolding.parts, BookS.enc_eq, BookS.parts]; rfl)) (by (repeat' (first | exact trivial | refine And.intro ?_ ?_)) <;> first | rfl | exact Enc.size_eq _ | (simp; done)) ?_)
   refine WL.op rfl (opW.allocA hS ?_)
   intro b13 w _ hS
   refine WL.op0 (opW.storeE (r := (BookS.mk ⟨none, 0, 0⟩)) hS rfl rfl (by repeat constructor) rfl ?_)
   intro w hS; replace hS := hS _ (by repeat constructor)
   refine WL.nil ?_
   refine thenQ_n (hK11 _ _ ?_)
   refine WC.seq (fun K12 hK12 => ?_)
   refine WC.seq (fun K13 hK13 => ?_)
   refine WC.region ?_
   refine WL.op rfl (opW.moveI rfl ?_)
   refine WL.op rfl (opW.moveI rfl ?_)
   refine WL.op rfl (opW.boolF (by rw [decide_eq_true rfl]; rfl) (opW.neq rfl rfl ⟨rfl, rfl⟩) ?_)
   refine WL.op rfl (opW.moveB rfl ?_)
   refine WL.gT 48 rfl rfl rfl (WL.op rfl (opW.loadV rfl (hS.ldA (b := b7) (cs := Enc.enc o1) (by repeat constructor) (Enc.size_eq o1)) ?_))
   refine WL.gT 48 rfl rfl rfl (WL.op rfl (opW.loadV rfl (hS.ldA (b := b9) (cs := Enc.enc o2) (by repeat constructor) (Enc.size_eq o2)) ?_))
   refine WL.gT 48 rfl rfl rfl (WL.op rfl (opW.call (sameOutcome_ok _ o1 o2 ch2 (hS.sl (v := o1.changed.v) (xs := ch2) (by repeat constructor)) (hS.sl (v := o2.changed.v) (xs := ch2) (by repeat constructor)) d3 d4 d5 d6 d7) rfl ?_))
   rintro _ w ⟨rfl, hw⟩; replace hS := hS.bel hw
   refine WL.gT 48 rfl rfl rfl (WL.op rfl (opW.not rfl ?_))
   refine WL.op rfl (opW.pickT rfl rfl ?_)
   refine WL.op rfl (opW.moveB rfl ?_)
   refine WL.gT 54 rfl rfl rfl (WL.op rfl (opW.loadV rfl (hS.ldA (b := b5) (cs := Enc.enc (⟨bc, (⟨sc, (⟨R.tx.m.v0, R.tx.m.header, kc, R.tx.m.recent, iv, lv⟩ : Message)⟩ : Tx), rc, R.budget, R.fee, R.cost, R.priority⟩ : Ready)) (by repeat constructor) (Enc.size_eq (⟨bc, (⟨sc, (⟨R.tx.m.v0, R.tx.m.header, kc, R.tx.m.recent, iv, lv⟩ : Message)⟩ : Tx), rc, R.budget, R.fee, R.cost, R.priority⟩ : Ready))) ?_))
   refine WL.gT 54 rfl rfl rfl (WL.op rfl (opW.loadV rfl (hS.ldA (b := b2) (cs := Enc.enc R) (by repeat constructor) (Enc.size_eq R)) ?_))
   refine WL.gT 54 rfl rfl rfl (WL.op rfl (opW.call (leftReady_ok _ R bs x ins lks r bf rf sf kf bc rc sc kc iv lv li ll (hx.bel hS.old) (hTR (show St w0 [ownE rf 91 (r ++ [markR, markR, markR]), tpE ll, ownE lv.v 64 (List.zipWith tL lks ll), tpE li, ownE iv.v 61 (List.zipWith tI ins li), ownE kf 62 (x.m.keys ++ [markK, markK, markK]), ownE sf 115 (x.sigs ++ [markS, markS, markS]), ownE bf 5 (bs ++ [165, 165, 165])] _ from hS.sub (by repeat with_reducible first | exact su1 _ | exact su2 _ | refine su3 ?_ | refine su4 ?_))) hbf hrf ⟨hv6, hcf0⟩ (hS.sl (v := bf) (xs := bs ++ [165, 165, 165]) (by repeat constructor)) (hS.sl (v := rf) (xs := r ++ [markR, markR, markR]) (by repeat constructor)) (hS.sl (v := sf) (xs := x.sigs ++ [markS, markS, markS]) (by repeat constructor)) (hmk (show St w0 [tpE ll, ownE lv.v 64 (List.zipWith tL lks ll), tpE li, ownE iv.v 61 (List.zipWith tI ins li), ownE kf 62 (x.m.keys ++ [markK, markK, markK]), ownE sf 115 (x.sigs ++ [markS, markS, markS])] _ from hS.sub (by repeat with_reducible first | exact su1 _ | exact su2 _ | refine su3 ?_ | refine su4 ?_)))) rfl ?_))
   rintro _ w ⟨rfl, hw⟩; replace hS := hS.bel hw
   refine WL.gT 54 rfl rfl rfl (WL.op rfl (opW.not rfl ?_))
   refine WL.op rfl (opW.pickT rfl rfl ?_)
   refine WL.op rfl (opW.moveB rfl ?_)
   refine WL.gT 60 rfl rfl rfl (WL.op rfl (opW.moveV (v := ac.v) rfl ?_))
   refine WL.gT 60 rfl rfl rfl (WL.op rfl (opW.moveV (v := sl.v) rfl ?_))
   refine WL.gT 60 rfl rfl rfl (WL.op rfl (opW.call (R' := fun u w' => u = .bool true ∧ Bel _ w') (hv25 ▸ leftAccounts_ok _ af sl.v l hca (hS.sl (v := af) (xs := l ++ [markA, markA, markA]) (by repeat constructor)) (hl.bel hS.old)) rfl ?_))
   rintro _ w ⟨rfl, hw⟩; replace hS := hS.bel hw
   refine WL.gT 60 rfl rfl rfl (WL.op rfl (opW.not rfl ?_))
   refine WL.op rfl (opW.pickT rfl rfl ?_)
   refine WL.nil ?_
   refine thenQ_n (hK13 _ _ ?_)
   refine WC.cond _ rfl (fun hc1 => ?_) (fun hc1 => ?_)
   ·
    have hr1 := hc1
    try simp only [sq1,sq2,sq3,sq4,sq5,sq6,sq7,sq8,sq9,sq0] at hc1
    cases hr1
   ·
    have hr1 := hc1
    try simp only [sq1,sq2,sq3,sq4,sq5,sq6,sq7,sq8,sq9,sq0] at hc1
    refine WC.skip ?_
    refine thenQ_n (hK12 _ _ ?_)
    refine WC.seq (fun K14 hK14 => ?_)
    refine WC.region ?_
    replace hS := (((hS.pick (e := ownE o3.changed.v 74 ch3) (by repeat constructor)).pick (e := ownE o1.changed.v 74 ch2) (by repeat constructor)).pick (e := blkE b13 (Enc.enc (BookS.mk ⟨none, 0, 0⟩)) 54) (by repeat constructor)).bkNew
    refine WL.op rfl (opW.loadV rfl (hS.ldA (b := b7) (cs := Enc.enc o1) (by repeat constructor) (Enc.size_eq o1)) ?_)
    refine WL.op rfl (opW.call (bkOutcome_ok _ _ _ b13 ⟨none, 0, 0⟩ [] o1 ch2 (by simp) hS) rfl ?_)
    rintro v67 w ⟨sv1, g1, hS⟩
    rw [List.nil_append] at hS
    refine WL.nil ?_
    refine thenQ_n (hK14 _ _ ?_)
    refine WC.seq (fun K15 hK15 => ?_)
    refine WC.region ?_
    replace hS := (hS.pick (e := ownE o3.changed.v 74 ch3) (by repeat constructor)).pick (e := bkE b13 sv1 [g1]) (by repeat constructor)
    refine WL.op rfl (opW.loadV rfl (hS.ldA (b := b11) (cs := Enc.enc o3) (by repeat constructor) (Enc.size_eq o3)) ?_)
    refine WL.op rfl (opW.call (bkOutcome_ok _ _ _ b13 sv1 [g1] o3 ch3 (by simp) hS) rfl ?_)
    rintro v69 w ⟨sv2, g2, hS⟩
    refine WL.nil ?_
    refine thenQ_n (hK15 _ _ ?_)
    refine WC.seq (fun K16 hK16 => ?_)
    refine WC.region ?_
    refine WL.op rfl (opW.call (apart_ok _ _ _ b13 sv2 ([g1] ++ [g2]) hS) rfl ?_)
    rintro _ w ⟨rfl, hS⟩
    refine WL.op rfl (opW.moveB rfl ?_)
    refine WL.gT 71 rfl rfl rfl (WL.op rfl (opW.call (lives15 _ (hg.bel hS.old)) rfl ?_))
    rintro _ w ⟨rfl, hw⟩; replace hS := hS.bel hw
    refine WL.op rfl (opW.pickT rfl rfl ?_)
    refine WL.op rfl (opW.assignB rfl ?_)
    refine WL.nil ?_
    refine thenQ_n (hK16 _ _ ?_)
    refine WC.ret ?_
    refine bodyQ_ret (.tmpB rfl .nil) ?_
    exact ⟨rfl, hS.old⟩

end Go.Fer
