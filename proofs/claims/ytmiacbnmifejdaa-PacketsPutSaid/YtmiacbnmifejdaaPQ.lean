/- PacketsPut -/
import Derived.Test.YtmiacbnmifejdaaPL
import Derived.Test.YtmiacbnmifejdaaPK
import Derived.Test.YtmiacbnmifejdaaPB
set_option linter.all false
namespace Go.Fer
open Go Go.Proofs Go.RowKit

theorem St.tpOut {w0 w : World} {S : List Ent} {l : List (BT × BT)} {p : BT × BT} (h : St w0 (tpE (p :: l) :: S) w) : St w0 (p.1.e :: p.2.e :: tpE l :: S) w := by
  rw [tpE_eq] at h ⊢
  have h2 : St w0 ([p.1.e, p.2.e] ++ (tpL l ++ S)) w := h.opened
  have h3 : St w0 (tpL l ++ ([p.1.e, p.2.e] ++ S)) w := h2.perm (List.perm_append_comm_assoc _ _ _)
  have h4 := St.closed h3
  exact h4.perm (((List.Perm.swap p.1.e (starE (tpL l)) _).trans ((List.Perm.swap p.2.e (starE (tpL l)) S).cons _)))
def tpG (p : BT × BT) : (SlV × List UInt8) × (SlV × List UInt8) := ((p.1.cut, p.1.xs), (p.2.cut, p.2.xs))
theorem St.front1 {w0 w : World} {S : List Ent} {b : BT} (ho : b.ok) (h : St w0 (b.e :: S) w) : St w0 (ownE b.cut.v 5 b.xs :: S) w := by
  unfold BT.e at h
  have h1 := h.ownFront (v := b.full) (E := 5) (xs := b.xs ++ [165, 165, 165]) (k := b.xs.length) (m := b.xs.length + 3) (by simp) (by omega) (by rw [ho.2]; exact Nat.le_refl _) .here
  rw [List.take_left, ← ho.1] at h1
  exact h1
theorem St.tpB2 {w0 w : World} : ∀ (l : List (BT × BT)) {S : List Ent}, (∀ p ∈ l, p.1.ok ∧ p.2.ok) → St w0 (tpE l :: S) w → St w0 (b2E (l.map tpG) :: S) w
  | [], S, _, h => by rw [tpE_eq] at h; rw [b2E_eq]; exact h
  | p :: l, S, ho, h => by
    have h1 := St.front1 (ho p List.mem_cons_self).1 h.tpOut
    have h2 := St.front1 (ho p List.mem_cons_self).2 h1.swap
    have h3 : St w0 (tpE l :: ownE p.1.cut.v 5 p.1.xs :: ownE p.2.cut.v 5 p.2.xs :: S) w := h2.perm (((List.Perm.swap _ _ _).trans ((List.Perm.swap _ _ _).cons _)).trans (List.Perm.swap _ _ _))
    have h4 := St.tpB2 l (fun q hq => ho q (List.mem_cons_of_mem _ hq)) h3
    exact St.b2Cons (p := tpG p) (h4.perm ((List.Perm.swap _ _ _).trans ((List.Perm.swap _ _ _).cons _)))
theorem zipI_tp {ins : List Instr} {li : List (BT × BT)} {c : List (UInt8 × List UInt8 × List UInt8)} (hl : ins.length = c.length) (h : Tws li c) : zipI (List.zipWith tI ins li) c = li.map tpG := by
  have h1 := h.1
  unfold zipI
  apply List.ext_getElem
  · rw [List.length_zipWith, tI_len, List.length_map]; omega
  · intro i g1 g2
    rw [List.length_map] at g2
    obtain ⟨_, _, h3, h4⟩ := h.2 i g2 (by omega)
    rw [List.getElem_zipWith, List.getElem_zipWith, List.getElem_map]
    unfold tpG tI
    rw [h3, h4]
theorem zipL_tp {ins : List Lookup} {li : List (BT × BT)} {c : List (Vector UInt8 32 × List UInt8 × List UInt8)} (hl : ins.length = c.length) (h : Tws li c) : zipL (List.zipWith tL ins li) c = li.map tpG := by
  have h1 := h.1
  unfold zipL
  apply List.ext_getElem
  · rw [List.length_zipWith, tL_len, List.length_map]; omega
  · intro i g1 g2
    rw [List.length_map] at g2
    obtain ⟨_, _, h3, h4⟩ := h.2 i g2 (by omega)
    rw [List.getElem_zipWith, List.getElem_zipWith, List.getElem_map]
    unfold tpG tL
    rw [h3, h4]
theorem Tws.oks {α : Type} {l : List (BT × BT)} {c : List (α × List UInt8 × List UInt8)} (h : Tws l c) : ∀ p ∈ l, p.1.ok ∧ p.2.ok := by
  intro p hp
  obtain ⟨i, hi, rfl⟩ := List.getElem_of_mem hp
  obtain ⟨h1, h2, _⟩ := h.2 i hi (by have := h.1; omega)
  exact ⟨h1, h2⟩

set_option maxRecDepth 20000 in
set_option maxHeartbeats 1000000 in
theorem pputlaw (w0 : World) (t : Tx) (ht : t.okz w0) : Ret Try.prog 3 #[.agg (Enc.enc t)] w0 (fun r w' => r = .bool true ∧ Bel w0 w') := by
  refine Ret.enter (args := [.agg (Enc.enc t)]) Try.func3 rfl Try.ntmps3 Try.results3 rfl ?_
  have hS := St.start w0
  obtain ⟨x, ins, lks, hx, hbd⟩ := okz_isT ht
  refine WC.seq (fun K1 hK1 => ?_)
  refine WC.region ?_
  refine WL.op rfl (opW.boxA hS rfl ?_)
  intro b1 w _ hS
  refine WL.op rfl (opW.assignB rfl ?_)
  refine WL.nil ?_
  refine thenQ_n (hK1 _ _ ?_)
  refine WC.seq (fun K2 hK2 => ?_)
  refine WC.seq (fun K3 hK3 => ?_)
  refine WC.region ?_
  refine WL.op rfl (opW.loadV rfl (hS.ldA (b := b1) (cs := Enc.enc t) (by first | exact .h0 | exact .h1 | exact .h2 | exact .h3 | exact .h4 | exact .h5 | exact .h6 | exact .h7 | exact .h8 | exact .h9 | exact .h10 | exact .h11 | exact .h12 | exact .h13 | exact .h14) (by exact Enc.size_eq _)) ?_)
  refine WL.op rfl (opW.call (great4_ok _ t x ins lks (hx.bel hS.old) hbd) rfl ?_)
  rintro _ w ⟨bb, rfl, hbb, hw⟩; replace hS := hS.bel hw
  refine WL.nil ?_
  refine thenQ_n (hK3 _ _ ?_)
  refine WC.cond _ rfl (fun hc0 => ?_) (fun hc0 => ?_)
  ·
    have hr0 := hc0
    try simp only [decide_eq_true_eq, decide_eq_false_iff_not, Bool.and_eq_true, Bool.or_eq_true, Bool.and_eq_false_iff, Bool.or_eq_false_iff, Bool.not_eq_true', Bool.not_eq_false', Int.not_lt, Int.not_le] at hc0
    refine WC.seq (fun K4 hK4 => ?_)
    refine WC.region ?_
    refine WL.op rfl (opW.call (lives4_ok _) rfl ?_)
    rintro _ w ⟨rfl, hw⟩; replace hS := hS.bel hw
    refine WL.op rfl (opW.assignB rfl ?_)
    refine WL.nil ?_
    refine thenQ_n (hK4 _ _ ?_)
    refine WC.ret ?_
    refine thenQ_r ?_
    refine bodyQ_ret (.tmpB rfl .nil) ?_
    exact ⟨rfl, hS.old⟩
  ·
    have hr0 := hc0
    try simp only [decide_eq_true_eq, decide_eq_false_iff_not, Bool.and_eq_true, Bool.or_eq_true, Bool.and_eq_false_iff, Bool.or_eq_false_iff, Bool.not_eq_true', Bool.not_eq_false', Int.not_lt, Int.not_le] at hc0
    refine WC.skip ?_
    refine thenQ_n (hK2 _ _ ?_)
    refine WC.seq (fun K5 hK5 => ?_)
    refine WC.region ?_
    refine WL.op rfl (opW.loadV rfl (hS.ldA (b := b1) (cs := Enc.enc t) (by first | exact .h0 | exact .h1 | exact .h2 | exact .h3 | exact .h4 | exact .h5 | exact .h6 | exact .h7 | exact .h8 | exact .h9 | exact .h10 | exact .h11 | exact .h12 | exact .h13 | exact .h14) (by exact Enc.size_eq _)) ?_)
    refine WL.op rfl (opW.call (twinTx_ok _ t x ins lks (hx.bel hS.old) (hbb hr0).1 (hbb hr0).2) rfl ?_)
    rintro u8 w ⟨sf, sc, kf, kc, iv, lv, li, ll, rfl, hv6, hcf0, huk, hcf, htw, htl, hTw⟩; replace hS := hS.merge hTw; simp only [List.cons_append, List.nil_append] at hS
    refine WL.op rfl (opW.allocA hS ?_)
    intro b3 w _ hS
    refine WL.op0 (opW.storeE (r := (⟨sc, (⟨t.m.v0, t.m.header, kc, t.m.recent, iv, lv⟩ : Message)⟩ : Tx)) hS rfl rfl (by first | exact .h0 | exact .h1 | exact .h2 | exact .h3 | exact .h4 | exact .h5 | exact .h6 | exact .h7 | exact .h8 | exact .h9 | exact .h10 | exact .h11 | exact .h12 | exact .h13 | exact .h14) (by rw [tx_zero]; exact Enc.size_eq _) ?_)
    intro w hS; replace hS := hS _ (by first | exact .h0 | exact .h1 | exact .h2 | exact .h3 | exact .h4 | exact .h5 | exact .h6 | exact .h7 | exact .h8 | exact .h9 | exact .h10 | exact .h11 | exact .h12 | exact .h13 | exact .h14)
    have hmk : ∀ {w : World}, St w0 [tpE ll, ownE lv.v 92 (List.zipWith tL lks ll), tpE li, ownE iv.v 90 (List.zipWith tI ins li), ownE kf 58 (x.m.keys ++ [markK, markK, markK])] w → TwR w t.m x.m ins lks kf kc iv lv li ll := fun h => ⟨huk, hcf, htw, htl, h.sl (v := kf) (xs := x.m.keys ++ [markK, markK, markK]) (by first | exact .h0 | exact .h1 | exact .h2 | exact .h3 | exact .h4 | exact .h5 | exact .h6 | exact .h7 | exact .h8 | exact .h9 | exact .h10 | exact .h11 | exact .h12 | exact .h13 | exact .h14), h.sl (v := iv.v) (xs := (List.zipWith tI ins li)) (by first | exact .h0 | exact .h1 | exact .h2 | exact .h3 | exact .h4 | exact .h5 | exact .h6 | exact .h7 | exact .h8 | exact .h9 | exact .h10 | exact .h11 | exact .h12 | exact .h13 | exact .h14), h.sl (v := lv.v) (xs := (List.zipWith tL lks ll)) (by first | exact .h0 | exact .h1 | exact .h2 | exact .h3 | exact .h4 | exact .h5 | exact .h6 | exact .h7 | exact .h8 | exact .h9 | exact .h10 | exact .h11 | exact .h12 | exact .h13 | exact .h14), fun p hp => tp_read (h.all (tpE li) (Has.mem (by first | exact .h0 | exact .h1 | exact .h2 | exact .h3 | exact .h4 | exact .h5 | exact .h6 | exact .h7 | exact .h8 | exact .h9 | exact .h10 | exact .h11 | exact .h12 | exact .h13 | exact .h14))).1 hp, fun p hp => tp_read (h.all (tpE ll) (Has.mem (by first | exact .h0 | exact .h1 | exact .h2 | exact .h3 | exact .h4 | exact .h5 | exact .h6 | exact .h7 | exact .h8 | exact .h9 | exact .h10 | exact .h11 | exact .h12 | exact .h13 | exact .h14))).1 hp⟩
    have hil := hx.2.ii.1
    have hll := hx.2.ll.1
    have hli := htw.1
    have hlj := htl.1
    have hzz : (List.zipWith tI ins li).length = ins.length := by rw [tI_len]; omega
    have hzy : (List.zipWith tL lks ll).length = lks.length := by rw [tL_len]; omega
    have hsg := (hbb hr0).1
    have hsz := (hbb hr0).2
    refine WL.nil ?_
    refine thenQ_n (hK5 _ _ ?_)
    refine WC.seq (fun K6 hK6 => ?_)
    refine WC.region ?_
    refine WL.op rfl (opW.loadV rfl (hS.ldA (b := b3) (cs := Enc.enc (⟨sc, (⟨t.m.v0, t.m.header, kc, t.m.recent, iv, lv⟩ : Message)⟩ : Tx)) (by first | exact .h0 | exact .h1 | exact .h2 | exact .h3 | exact .h4 | exact .h5 | exact .h6 | exact .h7 | exact .h8 | exact .h9 | exact .h10 | exact .h11 | exact .h12 | exact .h13 | exact .h14) (by exact Enc.size_eq _)) ?_)
    refine WL.op rfl (opW.call (pput_ok _ (⟨sc, (⟨t.m.v0, t.m.header, kc, t.m.recent, iv, lv⟩ : Message)⟩ : Tx) x (List.zipWith tI ins li) (List.zipWith tL lks ll) (show IsT _ (⟨sc, (⟨t.m.v0, t.m.header, kc, t.m.recent, iv, lv⟩ : Message)⟩ : Tx) x (List.zipWith tI ins li) (List.zipWith tL lks ll) from ⟨by show SlR _ sc.v x.sigs; rw [hv6]; exact SlR.head (hS.sl (v := sf) (xs := x.sigs ++ [markS, markS, markS]) (by first | exact .h0 | exact .h1 | exact .h2 | exact .h3 | exact .h4 | exact .h5 | exact .h6 | exact .h7 | exact .h8 | exact .h9 | exact .h10 | exact .h11 | exact .h12 | exact .h13 | exact .h14)) (by omega) (by omega), (hmk (hS.sub (by repeat (first | with_reducible exact List.nil_sublist _ | with_reducible exact List.Sublist.refl _ | with_reducible refine List.Sublist.cons₂ _ ?_ | with_reducible refine List.Sublist.cons _ ?_)))).isM (hx.2.bel hS.old)⟩) (by omega) (by omega)) rfl ?_)
    rintro _ w ⟨v16, rfl, hn16, hw, hc16⟩; replace hS := hS.newOwn hw hn16.1 hn16.2
    refine WL.op rfl (opW.moveV (v := .tuple #[v16, .int .i64 (ptE x)]) rfl ?_)
    refine WL.op rfl (opW.extract rfl rfl ?_)
    refine WL.op rfl (opW.extract rfl rfl ?_)
    refine WL.op rfl (opW.assignV (v := v16) rfl ?_)
    refine WL.op rfl (opW.assignI rfl ?_)
    refine WL.nil ?_
    refine thenQ_n (hK6 _ _ ?_)
    refine WC.seq (fun K7 hK7 => ?_)
    refine WC.region ?_
    refine WL.op rfl (opW.loadV rfl (hS.ldA (b := b1) (cs := Enc.enc t) (by first | exact .h0 | exact .h1 | exact .h2 | exact .h3 | exact .h4 | exact .h5 | exact .h6 | exact .h7 | exact .h8 | exact .h9 | exact .h10 | exact .h11 | exact .h12 | exact .h13 | exact .h14) (by exact Enc.size_eq _)) ?_)
    refine WL.op rfl (opW.call (rpput_ok _ t x ins lks (hx.bel hS.old) (by omega) (by omega)) rfl ?_)
    rintro _ w ⟨v21, rfl, hn21, hw⟩; replace hS := hS.newOwn hw hn21.1 hn21.2
    refine WL.op rfl (opW.moveV (v := .tuple #[v21, .int .i64 (ptE x)]) rfl ?_)
    refine WL.op rfl (opW.extract rfl rfl ?_)
    refine WL.op rfl (opW.extract rfl rfl ?_)
    refine WL.op rfl (opW.assignV (v := v21) rfl ?_)
    refine WL.op rfl (opW.assignI rfl ?_)
    refine WL.nil ?_
    refine thenQ_n (hK7 _ _ ?_)
    refine WC.seq (fun K8 hK8 => ?_)
    refine WC.seq (fun K9 hK9 => ?_)
    refine WC.region ?_
    refine WL.op rfl (opW.moveV (v := v16) rfl ?_)
    refine WL.op rfl (opW.moveV (v := v21) rfl ?_)
    refine WL.op rfl (opW.call (sameBytes_ok _ v16 v21 (ptL x) (ptL x) (hS.sl (v := v16) (xs := (ptL x)) (by first | exact .h0 | exact .h1 | exact .h2 | exact .h3 | exact .h4 | exact .h5 | exact .h6 | exact .h7 | exact .h8 | exact .h9 | exact .h10 | exact .h11 | exact .h12 | exact .h13 | exact .h14)) (hS.sl (v := v21) (xs := (ptL x)) (by first | exact .h0 | exact .h1 | exact .h2 | exact .h3 | exact .h4 | exact .h5 | exact .h6 | exact .h7 | exact .h8 | exact .h9 | exact .h10 | exact .h11 | exact .h12 | exact .h13 | exact .h14))) rfl ?_)
    rintro _ w ⟨rfl, hw⟩; replace hS := hS.bel hw
    rw [decide_eq_true (rfl : (ptL x) = (ptL x))]
    refine WL.op rfl (opW.not rfl ?_)
    refine WL.op rfl (opW.moveB rfl ?_)
    refine WL.gT 28 rfl rfl rfl (WL.op rfl (opW.moveI rfl ?_))
    refine WL.gT 28 rfl rfl rfl (WL.op rfl (opW.moveI rfl ?_))
    refine WL.gT 28 rfl rfl rfl (WL.op rfl (opW.boolF (by simp) (opW.neq rfl rfl ⟨rfl, rfl⟩) ?_))
    refine WL.op rfl (opW.pickT rfl rfl ?_)
    refine WL.op rfl (opW.moveB rfl ?_)
    refine WL.gT 33 rfl rfl rfl (WL.op rfl (opW.loadV rfl (hS.ldA (b := b3) (cs := Enc.enc (⟨sc, (⟨t.m.v0, t.m.header, kc, t.m.recent, iv, lv⟩ : Message)⟩ : Tx)) (by first | exact .h0 | exact .h1 | exact .h2 | exact .h3 | exact .h4 | exact .h5 | exact .h6 | exact .h7 | exact .h8 | exact .h9 | exact .h10 | exact .h11 | exact .h12 | exact .h13 | exact .h14) (by exact Enc.size_eq _)) ?_))
    refine WL.gT 33 rfl rfl rfl (WL.op rfl (opW.loadV rfl (hS.ldA (b := b1) (cs := Enc.enc t) (by first | exact .h0 | exact .h1 | exact .h2 | exact .h3 | exact .h4 | exact .h5 | exact .h6 | exact .h7 | exact .h8 | exact .h9 | exact .h10 | exact .h11 | exact .h12 | exact .h13 | exact .h14) (by exact Enc.size_eq _)) ?_))
    refine WL.gT 33 rfl rfl rfl (WL.op rfl (opW.call (leftTx_ok _ t x ins lks sf kf sc kc iv lv li ll (hx.bel hS.old) hv6 hcf0 (hS.sl (v := sf) (xs := x.sigs ++ [markS, markS, markS]) (by first | exact .h0 | exact .h1 | exact .h2 | exact .h3 | exact .h4 | exact .h5 | exact .h6 | exact .h7 | exact .h8 | exact .h9 | exact .h10 | exact .h11 | exact .h12 | exact .h13 | exact .h14)) (hmk (hS.sub (by repeat (first | with_reducible exact List.nil_sublist _ | with_reducible exact List.Sublist.refl _ | with_reducible refine List.Sublist.cons₂ _ ?_ | with_reducible refine List.Sublist.cons _ ?_))))) rfl ?_))
    rintro _ w ⟨rfl, hw⟩; replace hS := hS.bel hw
    refine WL.gT 33 rfl rfl rfl (WL.op rfl (opW.not rfl ?_))
    refine WL.op rfl (opW.pickT rfl rfl ?_)
    refine WL.nil ?_
    refine thenQ_n (hK9 _ _ ?_)
    refine WC.cond _ rfl (fun hc1 => ?_) (fun hc1 => ?_)
    ·
      have hr1 := hc1
      try simp only [decide_eq_true_eq, decide_eq_false_iff_not, Bool.and_eq_true, Bool.or_eq_true, Bool.and_eq_false_iff, Bool.or_eq_false_iff, Bool.not_eq_true', Bool.not_eq_false', Int.not_lt, Int.not_le] at hc1
      simp at hr1
    ·
      have hr1 := hc1
      try simp only [decide_eq_true_eq, decide_eq_false_iff_not, Bool.and_eq_true, Bool.or_eq_true, Bool.and_eq_false_iff, Bool.or_eq_false_iff, Bool.not_eq_true', Bool.not_eq_false', Int.not_lt, Int.not_le] at hc1
      refine WC.skip ?_
      refine thenQ_n (hK8 _ _ ?_)
      refine WC.seq (fun K10 hK10 => ?_)
      refine WC.region ?_
      refine WL.op rfl (opW.buildE (r := (⟨⟨none, 0, 0⟩⟩ : BookS)) (ps := BookS.parts (⟨⟨none, 0, 0⟩⟩ : BookS)) (BookS.enc_eq _) (by first | rfl | (simp only [markK, markS, enc_vset, enc_vz, Header.enc_eq, Header.parts, Instr.enc_eq, Instr.parts, Lookup.enc_eq, Lookup.parts, Message.enc_eq, Message.parts, Tx.enc_eq, Tx.parts, Reader.enc_eq, Reader.parts, Stop.enc_eq, Stop.parts, Taker.enc_eq, Taker.parts, Reading.enc_eq, Reading.parts, ShByte.enc_eq, ShByte.parts, ShKey.enc_eq, ShKey.parts, BookS.enc_eq, BookS.parts, ShSig.enc_eq, ShSig.parts]; rfl)) (by (repeat' (first | exact trivial | refine And.intro ?_ ?_)) <;> first | rfl | exact Enc.size_eq _ | (simp; done)) ?_)
      refine WL.op rfl (opW.allocA hS ?_)
      intro b8 w _ hS
      refine WL.op0 (opW.storeE (r := (⟨⟨none, 0, 0⟩⟩ : BookS)) hS rfl rfl (by first | exact .h0 | exact .h1 | exact .h2 | exact .h3 | exact .h4 | exact .h5 | exact .h6 | exact .h7 | exact .h8 | exact .h9 | exact .h10 | exact .h11 | exact .h12 | exact .h13 | exact .h14) rfl ?_)
      intro w hS; replace hS := hS _ (by first | exact .h0 | exact .h1 | exact .h2 | exact .h3 | exact .h4 | exact .h5 | exact .h6 | exact .h7 | exact .h8 | exact .h9 | exact .h10 | exact .h11 | exact .h12 | exact .h13 | exact .h14)
      refine WL.nil ?_
      refine thenQ_n (hK10 _ _ ?_)
      refine WC.seq (fun K11 hK11 => ?_)
      refine WC.region ?_
      replace hS := hS.ownFront (v := kf) (E := 58) (xs := x.m.keys ++ [markK, markK, markK]) (k := x.m.keys.length) (m := x.m.keys.length + 3) (by simp) (by omega) (by omega) (by first | exact .h0 | exact .h1 | exact .h2 | exact .h3 | exact .h4 | exact .h5 | exact .h6 | exact .h7 | exact .h8 | exact .h9 | exact .h10 | exact .h11 | exact .h12 | exact .h13 | exact .h14)
      rw [List.take_left, ← huk] at hS
      replace hS := hS.ownFront (v := sf) (E := 62) (xs := x.sigs ++ [markS, markS, markS]) (k := x.sigs.length) (m := x.sigs.length + 3) (by simp) (by omega) (by omega) (by first | exact .h0 | exact .h1 | exact .h2 | exact .h3 | exact .h4 | exact .h5 | exact .h6 | exact .h7 | exact .h8 | exact .h9 | exact .h10 | exact .h11 | exact .h12 | exact .h13 | exact .h14)
      rw [List.take_left, ← hv6] at hS
      replace hS := St.tpB2 li htw.oks (hS.pick (e := tpE li) (by first | exact .h0 | exact .h1 | exact .h2 | exact .h3 | exact .h4 | exact .h5 | exact .h6 | exact .h7 | exact .h8 | exact .h9 | exact .h10 | exact .h11 | exact .h12 | exact .h13 | exact .h14))
      rw [← zipI_tp hil htw] at hS
      replace hS := St.tpB2 ll htl.oks (hS.pick (e := tpE ll) (by first | exact .h0 | exact .h1 | exact .h2 | exact .h3 | exact .h4 | exact .h5 | exact .h6 | exact .h7 | exact .h8 | exact .h9 | exact .h10 | exact .h11 | exact .h12 | exact .h13 | exact .h14))
      rw [← zipL_tp hll htl] at hS
      replace hS := (hS.pick (e := blkE b8 (Enc.enc (BookS.mk ⟨none, 0, 0⟩)) 45) (by first | exact .h0 | exact .h1 | exact .h2 | exact .h3 | exact .h4 | exact .h5 | exact .h6 | exact .h7 | exact .h8 | exact .h9 | exact .h10 | exact .h11 | exact .h12 | exact .h13 | exact .h14)).bkNew
      replace hS := ((((hS.pick (e := b2E (zipL (List.zipWith tL lks ll) x.m.lks)) (by first | exact .h0 | exact .h1 | exact .h2 | exact .h3 | exact .h4 | exact .h5 | exact .h6 | exact .h7 | exact .h8 | exact .h9 | exact .h10 | exact .h11 | exact .h12 | exact .h13 | exact .h14)).pick (e := b2E (zipI (List.zipWith tI ins li) x.m.ins)) (by first | exact .h0 | exact .h1 | exact .h2 | exact .h3 | exact .h4 | exact .h5 | exact .h6 | exact .h7 | exact .h8 | exact .h9 | exact .h10 | exact .h11 | exact .h12 | exact .h13 | exact .h14)).pick (e := ownE kc.v 58 x.m.keys) (by first | exact .h0 | exact .h1 | exact .h2 | exact .h3 | exact .h4 | exact .h5 | exact .h6 | exact .h7 | exact .h8 | exact .h9 | exact .h10 | exact .h11 | exact .h12 | exact .h13 | exact .h14)).pick (e := ownE sc.v 62 x.sigs) (by first | exact .h0 | exact .h1 | exact .h2 | exact .h3 | exact .h4 | exact .h5 | exact .h6 | exact .h7 | exact .h8 | exact .h9 | exact .h10 | exact .h11 | exact .h12 | exact .h13 | exact .h14)).pick (e := bkE b8 ⟨none, 0, 0⟩ []) (by first | exact .h0 | exact .h1 | exact .h2 | exact .h3 | exact .h4 | exact .h5 | exact .h6 | exact .h7 | exact .h8 | exact .h9 | exact .h10 | exact .h11 | exact .h12 | exact .h13 | exact .h14)
      have hsz2 := hsz
      unfold MC.size at hsz2
      refine WL.op rfl (opW.loadV rfl (hS.ldA (b := b3) (cs := Enc.enc (⟨sc, (⟨t.m.v0, t.m.header, kc, t.m.recent, iv, lv⟩ : Message)⟩ : Tx)) (by first | exact .h0 | exact .h1 | exact .h2 | exact .h3 | exact .h4 | exact .h5 | exact .h6 | exact .h7 | exact .h8 | exact .h9 | exact .h10 | exact .h11 | exact .h12 | exact .h13 | exact .h14) (by exact Enc.size_eq _)) ?_)
      refine WL.op rfl (opW.call (bkTx_ok _ _ _ b8 ⟨none, 0, 0⟩ [] (⟨sc, (⟨t.m.v0, t.m.header, kc, t.m.recent, iv, lv⟩ : Message)⟩ : Tx) x (List.zipWith tI ins li) (List.zipWith tL lks ll) hS (fun w hw => hw.sl (v := iv.v) (xs := (List.zipWith tI ins li)) (by first | exact .h0 | exact .h1 | exact .h2 | exact .h3 | exact .h4 | exact .h5 | exact .h6 | exact .h7 | exact .h8 | exact .h9 | exact .h10 | exact .h11 | exact .h12 | exact .h13 | exact .h14)) (fun w hw => hw.sl (v := lv.v) (xs := (List.zipWith tL lks ll)) (by first | exact .h0 | exact .h1 | exact .h2 | exact .h3 | exact .h4 | exact .h5 | exact .h6 | exact .h7 | exact .h8 | exact .h9 | exact .h10 | exact .h11 | exact .h12 | exact .h13 | exact .h14)) (by omega) (by omega) (by simp only [List.length_nil]; omega)) rfl ?_)
      rintro v41 w ⟨sv1, pg1, hpl, hS⟩
      simp only [List.length_nil] at hpl
      replace hS := (hS.pick (e := ownE v16 5 (ptL x)) (by first | exact .h0 | exact .h1 | exact .h2 | exact .h3 | exact .h4 | exact .h5 | exact .h6 | exact .h7 | exact .h8 | exact .h9 | exact .h10 | exact .h11 | exact .h12 | exact .h13 | exact .h14)).pick (e := bkE b8 sv1 pg1) (by first | exact .h0 | exact .h1 | exact .h2 | exact .h3 | exact .h4 | exact .h5 | exact .h6 | exact .h7 | exact .h8 | exact .h9 | exact .h10 | exact .h11 | exact .h12 | exact .h13 | exact .h14)
      refine WL.nil ?_
      refine thenQ_n (hK11 _ _ ?_)
      refine WC.seq (fun K12 hK12 => ?_)
      refine WC.region ?_
      refine WL.op rfl (opW.moveV (v := v16) rfl ?_)
      refine WL.op rfl (opW.call (bkBytes_ok _ _ _ b8 sv1 pg1 v16 (ptL x) (by omega) hS) rfl ?_)
      rintro v43 w ⟨sv2, g2, hS⟩
      refine WL.nil ?_
      refine thenQ_n (hK12 _ _ ?_)
      refine WC.seq (fun K13 hK13 => ?_)
      refine WC.region ?_
      refine WL.op rfl (opW.call (apart_ok _ _ _ b8 sv2 (pg1 ++ [g2]) hS) rfl ?_)
      rintro _ w ⟨rfl, hS⟩
      refine WL.op rfl (opW.moveB rfl ?_)
      refine WL.gT 45 rfl rfl rfl (WL.op rfl (opW.call (lives4_ok _) rfl ?_))
      rintro _ w ⟨rfl, hw⟩; replace hS := hS.bel hw
      refine WL.op rfl (opW.pickT rfl rfl ?_)
      refine WL.op rfl (opW.assignB rfl ?_)
      refine WL.nil ?_
      refine thenQ_n (hK13 _ _ ?_)
      refine WC.ret ?_
      refine bodyQ_ret (.tmpB rfl .nil) ?_
      exact ⟨rfl, hS.old⟩

end Go.Fer
