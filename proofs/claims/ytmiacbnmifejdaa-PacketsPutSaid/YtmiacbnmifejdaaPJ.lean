/- transactions, twins -/
import Derived.Test.YtmiacbnmifejdaaPI
import Derived.Test.YtmiacbnmifejdaaPD
import Derived.Test.YtmiacbnmifejdaaP
set_option linter.all false
namespace Go.Fer
open Go Go.Proofs Go.RowKit

theorem great4_ok (w0 : World) (t : Tx) (x : TC) (ins : List Instr) (lks : List Lookup) (hx : IsT w0 t x ins lks) (hbd : (x.m.keys.length ≤ 140737488351232 ∧ ins.length ≤ 140737488351232 ∧ lks.length ≤ 140737488351232 ∧ (∀ i (h : i < x.m.ins.length), x.m.ins[i].2.1.length ≤ 140737488351232 ∧ x.m.ins[i].2.2.length ≤ 140737488351232) ∧ (∀ i (h : i < x.m.lks.length), x.m.lks[i].2.1.length ≤ 140737488351232 ∧ x.m.lks[i].2.2.length ≤ 140737488351232))) : Ret Try.prog 8 #[.agg (Enc.enc t)] w0 (fun u w' => ∃ b, u = .bool b ∧ (b = false → x.sigs.length ≤ 100 ∧ x.m.size < 3000) ∧ Bel w0 w') := by
  refine Ret.enter (args := [.agg (Enc.enc t)]) Try.func8 rfl Try.ntmps8 Try.results8 rfl ?_
  have hS := St.start w0
  obtain ⟨h1, h2, h3, h4, h5⟩ := hbd
  refine WC.seq (fun K1 hK1 => ?_)
  refine WC.region ?_
  refine WL.op rfl (opW.boxA hS rfl ?_)
  intro b1 w _ hS
  refine WL.op rfl (opW.assignB rfl ?_)
  refine WL.nil ?_
  refine thenQ_n (hK1 _ _ ?_)
  refine WC.seq (fun K2 hK2 => ?_)
  refine WC.region ?_
  refine WL.op rfl (opW.fieldAddrB rfl ?_)
  refine WL.op rfl (opW.loadV rfl (hS.ld1 (by first | exact .h0 | exact .h1 | exact .h2 | exact .h3 | exact .h4 | exact .h5 | exact .h6 | exact .h7 | exact .h8 | exact .h9 | exact .h10 | exact .h11 | exact .h12 | exact .h13 | exact .h14) (Tx.at_sigs t)) ?_)
  refine WL.op rfl (opW.lenV rfl ((hx.1.bel hS.old)) ?_)
  refine WL.op rfl (opW.gtr rfl rfl ?_)
  refine WL.op rfl (opW.moveB rfl ?_)
  cases hcs7 : (decide (100 < (x.sigs.length : Int))) with
  | true =>
    refine WL.gF 7 rfl rfl rfl rfl ?_
    refine WL.gF 7 rfl rfl rfl rfl ?_
    refine WL.gF 7 rfl rfl rfl rfl ?_
    refine WL.op rfl (opW.pickT rfl rfl ?_)
    refine WL.op rfl (opW.assignB rfl ?_)
    refine WL.nil ?_
    refine thenQ_n (hK2 _ _ ?_)
    refine WC.ret ?_
    refine bodyQ_ret (.tmpB rfl .nil) ?_
    exact ⟨true, rfl, (fun h => by cases h), hS.old⟩
  | false =>
    refine WL.gT 7 rfl rfl rfl (WL.op rfl (opW.fieldAddrB rfl ?_))
    refine WL.gT 7 rfl rfl rfl (WL.op rfl (opW.loadV rfl (hS.ldF (by first | exact .h0 | exact .h1 | exact .h2 | exact .h3 | exact .h4 | exact .h5 | exact .h6 | exact .h7 | exact .h8 | exact .h9 | exact .h10 | exact .h11 | exact .h12 | exact .h13 | exact .h14) (Tx.ex_m t) (by rw [Enc.size_eq]; decide)) ?_))
    refine WL.gT 7 rfl rfl rfl (WL.op rfl (opW.call (great_ok _ t.m x.m ins lks (hx.2.bel hS.old) h1 h2 h3 h4 h5) rfl ?_))
    rintro _ w ⟨bb, rfl, hbb, hw⟩; replace hS := hS.bel hw
    refine WL.op rfl (opW.pickT rfl rfl ?_)
    refine WL.op rfl (opW.assignB rfl ?_)
    refine WL.nil ?_
    refine thenQ_n (hK2 _ _ ?_)
    refine WC.ret ?_
    refine bodyQ_ret (.tmpB rfl .nil) ?_
    exact ⟨bb, rfl, (fun h => ⟨by have := of_decide_eq_false hcs7; omega, hbb h⟩), hS.old⟩

theorem sameTx_ok (w0 : World) (a b : Tx) (xa xb : TC) (insA insB : List Instr) (lksA lksB : List Lookup) (hA : IsT w0 a xa insA lksA) (hB : IsT w0 b xb insB lksB) : Ret Try.prog 23 #[.agg (Enc.enc a), .agg (Enc.enc b)] w0 (fun r w' => r = .bool (decide (xa = xb)) ∧ Bel w0 w') := by
  refine Ret.enter (args := [.agg (Enc.enc a), .agg (Enc.enc b)]) Try.func23 rfl Try.ntmps23 Try.results23 rfl ?_
  have hS := St.start w0
  refine WC.seq (fun K1 hK1 => ?_)
  refine WC.region ?_
  refine WL.op rfl (opW.boxA hS rfl ?_)
  intro b2 w _ hS
  refine WL.op rfl (opW.boxA hS rfl ?_)
  intro b3 w _ hS
  refine WL.op rfl (opW.assignB rfl ?_)
  refine WL.nil ?_
  refine thenQ_n (hK1 _ _ ?_)
  refine WC.seq (fun K2 hK2 => ?_)
  refine WC.region ?_
  refine WL.op rfl (opW.fieldAddrB rfl ?_)
  refine WL.op rfl (opW.loadV rfl (hS.ld1 (cs := Enc.enc a) (by first | exact .h0 | exact .h1 | exact .h2 | exact .h3 | exact .h4 | exact .h5 | exact .h6 | exact .h7 | exact .h8 | exact .h9 | exact .h10 | exact .h11 | exact .h12 | exact .h13 | exact .h14) (Tx.at_sigs a)) ?_)
  refine WL.op rfl (opW.fieldAddrB rfl ?_)
  refine WL.op rfl (opW.loadV rfl (hS.ld1 (cs := Enc.enc b) (by first | exact .h0 | exact .h1 | exact .h2 | exact .h3 | exact .h4 | exact .h5 | exact .h6 | exact .h7 | exact .h8 | exact .h9 | exact .h10 | exact .h11 | exact .h12 | exact .h13 | exact .h14) (Tx.at_sigs b)) ?_)
  refine WL.op rfl (opW.call (same_s _ _ _ _ _ (hA.1.bel hS.old) (hB.1.bel hS.old)) rfl ?_)
  rintro _ w ⟨rfl, hw⟩; replace hS := hS.bel hw
  refine WL.op rfl (opW.moveB rfl ?_)
  refine WL.gd _ 10 _ rfl rfl rfl rfl (fun hg11 => opW.fieldAddrB rfl ⟨rfl, Bel.refl _⟩) (fun w hw => ?_)
  replace hS := hS.bel hw
  refine WL.gd _ 10 (.agg (Enc.enc a.m)) rfl rfl rfl rfl (fun hg12 => ?_) (fun w hw => ?_)
  · refine opW.loadV (by first | exact gv_of rfl hg12 | rfl) (hS.ldF (cs := Enc.enc a) (by first | exact .h0 | exact .h1 | exact .h2 | exact .h3 | exact .h4 | exact .h5 | exact .h6 | exact .h7 | exact .h8 | exact .h9 | exact .h10 | exact .h11 | exact .h12 | exact .h13 | exact .h14) (Tx.ex_m a) (by rw [Enc.size_eq]; decide)) ⟨rfl, Bel.refl _⟩
  replace hS := hS.bel hw
  refine WL.gd _ 10 _ rfl rfl rfl rfl (fun hg13 => opW.fieldAddrB rfl ⟨rfl, Bel.refl _⟩) (fun w hw => ?_)
  replace hS := hS.bel hw
  refine WL.gd _ 10 (.agg (Enc.enc b.m)) rfl rfl rfl rfl (fun hg14 => ?_) (fun w hw => ?_)
  · refine opW.loadV (by first | exact gv_of rfl hg14 | rfl) (hS.ldF (cs := Enc.enc b) (by first | exact .h0 | exact .h1 | exact .h2 | exact .h3 | exact .h4 | exact .h5 | exact .h6 | exact .h7 | exact .h8 | exact .h9 | exact .h10 | exact .h11 | exact .h12 | exact .h13 | exact .h14) (Tx.ex_m b) (by rw [Enc.size_eq]; decide)) ⟨rfl, Bel.refl _⟩
  replace hS := hS.bel hw
  refine WL.gd _ 10 (.bool (decide (xa.m = xb.m))) rfl rfl rfl rfl (fun hg15 => ?_) (fun w hw => ?_)
  · refine opW.call (sameMsg_ok _ a.m b.m xa.m xb.m insA insB lksA lksB (hA.2.bel hS.old) (hB.2.bel hS.old)) (args2 (by first | exact gv_of rfl hg15 | rfl) (by first | exact gv_of rfl hg15 | rfl)) ?_
    rintro v w ⟨rfl, hw⟩; replace hS := hS.bel hw
    exact ⟨rfl, ‹_›⟩
  replace hS := hS.bel hw
  refine WL.op rfl (opW.pickAnd rfl (by first | rfl) rfl ?_)
  refine WL.op rfl (opW.assignB rfl ?_)
  refine WL.nil ?_
  refine thenQ_n (hK2 _ _ ?_)
  refine WC.ret ?_
  refine bodyQ_ret (.tmpB rfl .nil) ?_
  refine ⟨congrArg Value.bool ?_, hS.old⟩
  rw [Bool.eq_iff_iff]
  simp only [Bool.and_eq_true, decide_eq_true_eq]
  cases xa; cases xb
  simp only [TC.mk.injEq]

theorem twinTx_ok (w0 : World) (t : Tx) (x : TC) (ins : List Instr) (lks : List Lookup) (hx : IsT w0 t x ins lks) (hsg : x.sigs.length ≤ 100) (hsz : x.m.size < 3000) : Ret Try.prog 10 #[.agg (Enc.enc t)] w0 (fun u w' => ∃ (sf : Value) (sc : SlV) (kf : Value) (kc iv lv : SlV) (li ll : List (BT × BT)), u = .agg (Enc.enc (⟨sc, ⟨t.m.v0, t.m.header, kc, t.m.recent, iv, lv⟩⟩ : Tx)) ∧ sc.v = cutV sf 0 x.sigs.length (x.sigs.length + 3) (Enc.sz (Vector UInt8 64)) ∧ capV sf = x.sigs.length + 3 ∧ kc.v = cutV kf 0 x.m.keys.length (x.m.keys.length + 3) (Enc.sz (Vector UInt8 32)) ∧ capV kf = x.m.keys.length + 3 ∧ Tws li x.m.ins ∧ Tws ll x.m.lks ∧ St w0 [tpE ll, ownE lv.v 92 (List.zipWith tL lks ll), tpE li, ownE iv.v 90 (List.zipWith tI ins li), ownE kf 58 (x.m.keys ++ [markK, markK, markK]), ownE sf 62 (x.sigs ++ [markS, markS, markS])] w') := by
  refine Ret.enter (args := [.agg (Enc.enc t)]) Try.func10 rfl Try.ntmps10 Try.results10 rfl ?_
  have hS := St.start w0
  refine WC.seq (fun K1 hK1 => ?_)
  refine WC.region ?_
  refine WL.op rfl (opW.boxA hS rfl ?_)
  intro b1 w _ hS
  refine WL.op rfl (opW.allocA hS ?_)
  intro b2 w _ hS
  rw [tx_zero] at hS
  refine WL.nil ?_
  refine thenQ_n (hK1 _ _ ?_)
  refine WC.seq (fun K2 hK2 => ?_)
  refine WC.draw 8 (.look 0 (.look 1 (.look 4 (.look 5 (.one 2 (.one 3 (.one 6 (.look 7 (.one 8 .nil))))))))) (by kernel_rfl) (fun _ _ _ h => h) (fun w1 hw1 => ?_)
  replace hS := hS.bel hw1
  have hS1 := hS
  have hT := St.start w1
  refine ML.look rfl rfl rfl (fun w hw => (by have hS := hS1.bel hw; exact opW.fieldAddrB rfl ⟨rfl, rfl⟩)) ?_
  refine ML.look rfl rfl rfl (fun w hw => (by have hS := hS1.bel hw; exact opW.loadV rfl (hS.ld1 (by first | exact .h0 | exact .h1 | exact .h2 | exact .h3 | exact .h4 | exact .h5 | exact .h6 | exact .h7 | exact .h8 | exact .h9 | exact .h10 | exact .h11 | exact .h12 | exact .h13 | exact .h14) (Tx.at_sigs t)) ⟨rfl, rfl⟩)) ?_
  refine ML.look rfl rfl rfl (fun w hw => (by have hS := hS1.bel hw; exact opW.fieldAddrB rfl ⟨rfl, rfl⟩)) ?_
  refine ML.look rfl rfl rfl (fun w hw => (by have hS := hS1.bel hw; exact opW.loadV rfl (hS.ldF (cs := Enc.enc t) (by first | exact .h0 | exact .h1 | exact .h2 | exact .h3 | exact .h4 | exact .h5 | exact .h6 | exact .h7 | exact .h8 | exact .h9 | exact .h10 | exact .h11 | exact .h12 | exact .h13 | exact .h14) (Tx.ex_m t) (by rw [Enc.size_eq]; decide)) ⟨rfl, rfl⟩)) ?_
  refine ML.one rfl rfl rfl (opW.call (markSig_ok _) rfl ?_)
  rintro _ w ⟨rfl, hw⟩; replace hT := hT.bel hw
  refine ⟨hT.old, ?_⟩
  have hS := hS1.merge hT
  try simp only [List.cons_append, List.nil_append] at hS
  refine ML.one rfl rfl rfl (opW.call (twin_Sig _ t.sigs.v x.sigs markS (hx.1.bel (hS1.old.trans hT.old)) (by omega)) rfl ?_)
  rintro v6 w ⟨sf, hv6, hcf0, hn6, hw⟩; replace hT := hT.newOwn hw hn6.1 hn6.2
  obtain ⟨sc, rfl⟩ : ∃ s : SlV, v6 = s.v := (by rw [hv6]; exact (SlR.head (hT.sl (v := sf) (xs := x.sigs ++ [markS, markS, markS]) (by first | exact .h0 | exact .h1 | exact .h2 | exact .h3 | exact .h4 | exact .h5 | exact .h6 | exact .h7 | exact .h8 | exact .h9 | exact .h10 | exact .h11 | exact .h12 | exact .h13 | exact .h14)) (by omega) (by omega)).asV)
  refine ⟨hT.old, ?_⟩
  have hS := hS1.merge hT
  try simp only [List.cons_append, List.nil_append] at hS
  refine ML.one rfl rfl rfl (opW.call (twinMsg_ok _ t.m x.m ins lks (hx.2.bel (hS1.old.trans hT.old)) hsz) rfl ?_)
  rintro u9 w ⟨kf, kc, iv, lv, li, ll, rfl, huk, hcf, htw, htl, hTw⟩; replace hT := hT.merge hTw; simp only [List.cons_append, List.nil_append] at hT
  refine ⟨hT.old, ?_⟩
  have hS := hS1.merge hT
  try simp only [List.cons_append, List.nil_append] at hS
  refine ML.look rfl rfl rfl (fun w hw => (by have hS := hS1.bel hw; exact opW.buildE (r := (⟨sc, (⟨t.m.v0, t.m.header, kc, t.m.recent, iv, lv⟩ : Message)⟩ : Tx)) (ps := Tx.parts (⟨sc, (⟨t.m.v0, t.m.header, kc, t.m.recent, iv, lv⟩ : Message)⟩ : Tx)) (Tx.enc_eq _) (by simp only [Header.enc_eq, Header.parts, Message.enc_eq, Message.parts, Tx.parts]; rfl) ⟨(by simp), rfl, (by simp), (Enc.size_eq (α := Message) _), trivial⟩ ⟨rfl, rfl⟩)) ?_
  refine ML.put0 rfl rfl rfl (opW.storeE (b := b2) (r := (⟨sc, (⟨t.m.v0, t.m.header, kc, t.m.recent, iv, lv⟩ : Message)⟩ : Tx)) hS rfl rfl (by first | exact .h0 | exact .h1 | exact .h2 | exact .h3 | exact .h4 | exact .h5 | exact .h6 | exact .h7 | exact .h8 | exact .h9 | exact .h10 | exact .h11 | exact .h12 | exact .h13 | exact .h14) (by exact Enc.size_eq _) ?_)
  intro w hS; replace hS := hS _ (by first | exact .h0 | exact .h1 | exact .h2 | exact .h3 | exact .h4 | exact .h5 | exact .h6 | exact .h7 | exact .h8 | exact .h9 | exact .h10 | exact .h11 | exact .h12 | exact .h13 | exact .h14)
  refine ML.nil ?_
  refine thenQ_n (hK2 _ _ ?_)
  refine WC.ret ?_
  refine bodyQ_ret (.cell (by exact hS.ldA (b := b2) (cs := Enc.enc (⟨sc, (⟨t.m.v0, t.m.header, kc, t.m.recent, iv, lv⟩ : Message)⟩ : Tx)) (by first | exact .h0 | exact .h1 | exact .h2 | exact .h3 | exact .h4 | exact .h5 | exact .h6 | exact .h7 | exact .h8 | exact .h9 | exact .h10 | exact .h11 | exact .h12 | exact .h13 | exact .h14) (by exact Enc.size_eq _)) .nil) ?_
  exact ⟨sf, sc, kf, kc, iv, lv, li, ll, rfl, hv6, hcf0, huk, hcf, htw, htl, hS.sub (by repeat (first | with_reducible exact List.nil_sublist _ | with_reducible exact List.Sublist.refl _ | with_reducible refine List.Sublist.cons₂ _ ?_ | with_reducible refine List.Sublist.cons _ ?_))⟩

theorem leftTx_ok (w0 : World) (t : Tx) (x : TC) (ins : List Instr) (lks : List Lookup) (sf kf : Value) (sc kc iv lv : SlV) (li ll : List (BT × BT)) (hx : IsT w0 t x ins lks) (hsc : sc.v = cutV sf 0 x.sigs.length (x.sigs.length + 3) (Enc.sz (Vector UInt8 64))) (hsf : capV sf = x.sigs.length + 3) (hs3 : SlR w0 sf (x.sigs ++ [markS, markS, markS])) (ht : TwR w0 t.m x.m ins lks kf kc iv lv li ll) : Ret Try.prog 14 #[.agg (Enc.enc (⟨sc, (⟨t.m.v0, t.m.header, kc, t.m.recent, iv, lv⟩ : Message)⟩ : Tx)), .agg (Enc.enc t)] w0 (fun r w' => r = .bool true ∧ Bel w0 w') := by
  refine Ret.enter (args := [.agg (Enc.enc (⟨sc, (⟨t.m.v0, t.m.header, kc, t.m.recent, iv, lv⟩ : Message)⟩ : Tx)), .agg (Enc.enc t)]) Try.func14 rfl Try.ntmps14 Try.results14 rfl ?_
  have hS := St.start w0
  refine WC.seq (fun K1 hK1 => ?_)
  refine WC.region ?_
  refine WL.op rfl (opW.boxA hS rfl ?_)
  intro b2 w _ hS
  refine WL.op rfl (opW.boxA hS rfl ?_)
  intro b3 w _ hS
  refine WL.op rfl (opW.assignB rfl ?_)
  refine WL.nil ?_
  refine thenQ_n (hK1 _ _ ?_)
  refine WC.seq (fun K2 hK2 => ?_)
  refine WC.draw 14 (.look 0 (.look 1 (.look 2 (.look 3 (.one 4 (.one 5 (.look 6 (.look 7 (.look 8 (.look 9 (.look 10 (.one 11 (.look 12 (.look 13 .nil)))))))))))))) (by kernel_rfl) (fun _ _ _ h => h) (fun w1 hw1 => ?_)
  replace hS := hS.bel hw1
  have hS1 := hS
  have hT := St.start w1
  refine ML.look rfl rfl rfl (fun w hw => (by have hS := hS1.bel hw; exact opW.fieldAddrB rfl ⟨rfl, rfl⟩)) ?_
  refine ML.look rfl rfl rfl (fun w hw => (by have hS := hS1.bel hw; exact opW.loadV rfl (hS.ld1 (cs := Enc.enc (⟨sc, (⟨t.m.v0, t.m.header, kc, t.m.recent, iv, lv⟩ : Message)⟩ : Tx)) (by first | exact .h0 | exact .h1 | exact .h2 | exact .h3 | exact .h4 | exact .h5 | exact .h6 | exact .h7 | exact .h8 | exact .h9 | exact .h10 | exact .h11 | exact .h12 | exact .h13 | exact .h14) ((Tx.at_sigs (⟨sc, (⟨t.m.v0, t.m.header, kc, t.m.recent, iv, lv⟩ : Message)⟩ : Tx)).trans (congrArg some hsc))) ⟨rfl, rfl⟩)) ?_
  refine ML.look rfl rfl rfl (fun w hw => (by have hS := hS1.bel hw; exact opW.fieldAddrB rfl ⟨rfl, rfl⟩)) ?_
  refine ML.look rfl rfl rfl (fun w hw => (by have hS := hS1.bel hw; exact opW.loadV rfl (hS.ld1 (cs := Enc.enc t) (by first | exact .h0 | exact .h1 | exact .h2 | exact .h3 | exact .h4 | exact .h5 | exact .h6 | exact .h7 | exact .h8 | exact .h9 | exact .h10 | exact .h11 | exact .h12 | exact .h13 | exact .h14) (Tx.at_sigs t)) ⟨rfl, rfl⟩)) ?_
  refine ML.one rfl rfl rfl (opW.call (markSig_ok _) rfl ?_)
  rintro _ w ⟨rfl, hw⟩; replace hT := hT.bel hw
  refine ⟨hT.old, ?_⟩
  have hS := hS1.merge hT
  try simp only [List.cons_append, List.nil_append] at hS
  refine ML.one rfl rfl rfl (opW.call (left_Sig _ sf t.sigs.v x.sigs markS hsf (hs3.bel (hS1.old.trans hT.old)) (hx.1.bel (hS1.old.trans hT.old))) rfl ?_)
  rintro _ w ⟨rfl, hw⟩; replace hT := hT.bel hw
  refine ⟨hT.old, ?_⟩
  have hS := hS1.merge hT
  try simp only [List.cons_append, List.nil_append] at hS
  refine ML.look rfl rfl rfl (fun w hw => (by have hS := hS1.bel hw; exact opW.moveB rfl ⟨rfl, rfl⟩)) ?_
  refine ML.lookT 11 rfl rfl rfl rfl rfl rfl (fun w hw => (by have hS := hS1.bel hw; exact opW.fieldAddrB rfl ⟨rfl, rfl⟩)) ?_
  refine ML.lookT 11 rfl rfl rfl rfl rfl rfl (fun w hw => (by have hS := hS1.bel hw; exact opW.loadV rfl (hS.ldF (cs := Enc.enc (⟨sc, (⟨t.m.v0, t.m.header, kc, t.m.recent, iv, lv⟩ : Message)⟩ : Tx)) (by first | exact .h0 | exact .h1 | exact .h2 | exact .h3 | exact .h4 | exact .h5 | exact .h6 | exact .h7 | exact .h8 | exact .h9 | exact .h10 | exact .h11 | exact .h12 | exact .h13 | exact .h14) (Tx.ex_m (⟨sc, (⟨t.m.v0, t.m.header, kc, t.m.recent, iv, lv⟩ : Message)⟩ : Tx)) (by rw [Enc.size_eq]; decide)) ⟨rfl, rfl⟩)) ?_
  refine ML.lookT 11 rfl rfl rfl rfl rfl rfl (fun w hw => (by have hS := hS1.bel hw; exact opW.fieldAddrB rfl ⟨rfl, rfl⟩)) ?_
  refine ML.lookT 11 rfl rfl rfl rfl rfl rfl (fun w hw => (by have hS := hS1.bel hw; exact opW.loadV rfl (hS.ldF (cs := Enc.enc t) (by first | exact .h0 | exact .h1 | exact .h2 | exact .h3 | exact .h4 | exact .h5 | exact .h6 | exact .h7 | exact .h8 | exact .h9 | exact .h10 | exact .h11 | exact .h12 | exact .h13 | exact .h14) (Tx.ex_m t) (by rw [Enc.size_eq]; decide)) ⟨rfl, rfl⟩)) ?_
  refine ML.oneT 11 rfl rfl rfl rfl rfl rfl (opW.call (leftMsg_ok _ t.m x.m ins lks kf kc iv lv li ll (hx.2.bel (hS1.old.trans hT.old)) (ht.bel (hS1.old.trans hT.old))) rfl ?_)
  rintro _ w ⟨rfl, hw⟩; replace hT := hT.bel hw
  refine ⟨hT.old, ?_⟩
  have hS := hS1.merge hT
  try simp only [List.cons_append, List.nil_append] at hS
  refine ML.look rfl rfl rfl (fun w hw => (by have hS := hS1.bel hw; exact opW.pickT rfl rfl ⟨rfl, rfl⟩)) ?_
  refine ML.look rfl rfl rfl (fun w hw => (by have hS := hS1.bel hw; exact opW.assignB rfl ⟨rfl, rfl⟩)) ?_
  refine ML.nil ?_
  refine thenQ_n (hK2 _ _ ?_)
  refine WC.ret ?_
  refine bodyQ_ret (.tmpB rfl .nil) ?_
  exact ⟨rfl, hS.old⟩

end Go.Fer
