/- PacketsGet -/
import Derived.Test.YtmiacbnmifejdaaPL
import Derived.Test.YtmiacbnmifejdaaPK2
import Derived.Test.YtmiacbnmifejdaaPH
set_option linter.all false
namespace Go.Fer
open Go Go.Proofs Go.RowKit

/-- a transaction that was got, as one entry -/
@[irreducible] def gtE (t : Tx) (is : List Instr) (ls : List Lookup) (x : TC) : Ent := starE (gotTL t is ls x)
theorem St.gtClose {w0 w : World} {S : List Ent} {t : Tx} {is : List Instr} {ls : List Lookup} {x : TC} (h : St w0 (gotTL t is ls x ++ S) w) : St w0 (gtE t is ls x :: S) w := by unfold gtE; exact St.closed h
theorem St.gtOpen {w0 w : World} {S : List Ent} {t : Tx} {is : List Instr} {ls : List Lookup} {x : TC} (h : St w0 (gtE t is ls x :: S) w) : St w0 (gotTL t is ls x ++ S) w := by unfold gtE at h; exact h.opened
theorem St.gtIsT {w0 w : World} {S S' : List Ent} {t : Tx} {is : List Instr} {ls : List Lookup} {x : TC} (h : St w0 S w) (hg : GotT t is ls x) (hp : Pick (gtE t is ls x) S S') : IsT w t x is ls := hg.isT (((h.pick hp).gtOpen).sub (List.sublist_append_left _ _))
theorem St.gtMerge {w0 w1 w : World} {S : List Ent} {t : Tx} {is : List Instr} {ls : List Lookup} {x : TC} (h1 : St w0 S w1) (h2 : St w1 (gotTL t is ls x) w) : St w0 (gtE t is ls x :: S) w := (h1.merge h2).gtClose

set_option maxRecDepth 20000 in
set_option maxHeartbeats 1000000 in
theorem pgetlaw (w0 : World) (sb : SlV) (xs : List UInt8) (hb : SlR w0 sb.v xs) : Ret Try.prog 4 #[sb.v] w0 (fun r w' => r = .bool true ∧ Bel w0 w') := by
  refine Ret.enter (args := [sb.v]) Try.func4 rfl Try.ntmps4 Try.results4 rfl ?_
  have hS := St.start w0
  obtain ⟨xt, tk, er, hG⟩ : ∃ (x : TC) (t : Nat) (e : Int), gtF xs = (x, t, e) := ⟨_, _, _, rfl⟩
  obtain ⟨xw, ew, hW⟩ : ∃ (x : TC) (e : Int), whF xs = (x, e) := ⟨_, _, rfl⟩
  have hle := hb.le
  simp only [maxLen] at hle
  refine WC.seq (fun K1 hK1 => ?_)
  refine WC.region ?_
  refine WL.op rfl (opW.assignB rfl ?_)
  refine WL.nil ?_
  refine thenQ_n (hK1 _ _ ?_)
  refine WC.seq (fun K2 hK2 => ?_)
  refine WC.seq (fun K3 hK3 => ?_)
  refine WC.region ?_
  refine WL.op rfl (opW.moveV (v := sb.v) rfl ?_)
  refine WL.op rfl (opW.lenV rfl ((hb.bel hS.old)) ?_)
  refine WL.op rfl (opW.gtr rfl rfl ?_)
  refine WL.nil ?_
  refine thenQ_n (hK3 _ _ ?_)
  refine WC.cond _ rfl (fun hc0 => ?_) (fun hc0 => ?_)
  ·
    have hr0 := hc0
    try simp only [decide_eq_true_eq, decide_eq_false_iff_not, Bool.and_eq_true, Bool.or_eq_true, Bool.and_eq_false_iff, Bool.or_eq_false_iff, Bool.not_eq_true', Bool.not_eq_false', Int.not_lt, Int.not_le] at hc0
    refine WC.seq (fun K4 hK4 => ?_)
    refine WC.region ?_
    refine WL.op rfl (opW.call (lives4_ok _) rfl ?_)
    rintro _ w ⟨rfl, hw⟩; replace hS := hS.bel hw
    refine WL.op rfl (opW.assignB rfl ?_)
    refine WL.nil ?_
    refine thenQ_n (hK4 _ _ ?_)
    refine WC.ret ?_
    refine thenQ_r ?_
    refine bodyQ_ret (.tmpB rfl .nil) ?_
    exact ⟨rfl, hS.old⟩
  ·
    have hr0 := hc0
    try simp only [decide_eq_true_eq, decide_eq_false_iff_not, Bool.and_eq_true, Bool.or_eq_true, Bool.and_eq_false_iff, Bool.or_eq_false_iff, Bool.not_eq_true', Bool.not_eq_false', Int.not_lt, Int.not_le] at hc0
    have hsz := gtF_size xs
    have hszw := whF_size xs
    rw [hG] at hsz
    rw [hW] at hszw
    have hsz2 : xt.m.size ≤ 5000 := by have : xt.m.size ≤ xs.length := hsz; omega
    have hsz3 : xw.m.size ≤ 5000 := by have : xw.m.size ≤ xs.length := hszw; omega
    unfold MC.size at hsz2 hsz3
    refine WC.skip ?_
    refine thenQ_n (hK2 _ _ ?_)
    refine WC.seq (fun K5 hK5 => ?_)
    refine WC.region ?_
    refine WL.op rfl (opW.moveV (v := sb.v) rfl ?_)
    refine WL.op rfl (opW.call (twinBytes_ok _ sb.v xs (hb.bel hS.old) (by omega)) rfl ?_)
    rintro u20 w ⟨fv, hu20, hcf, hn20, hw⟩; replace hS := hS.newOwn hw hn20.1 hn20.2; obtain ⟨st, rfl⟩ : ∃ s : SlV, u20 = s.v := (by rw [hu20]; exact (SlR.head (hS.sl (v := fv) (xs := xs ++ [165, 165, 165]) (by first | exact .h0 | exact .h1 | exact .h2 | exact .h3 | exact .h4 | exact .h5 | exact .h6 | exact .h7 | exact .h8 | exact .h9 | exact .h10 | exact .h11 | exact .h12 | exact .h13 | exact .h14)) (by omega) (by omega)).asV)
    refine WL.op rfl (opW.assignV (v := st.v) rfl ?_)
    refine WL.nil ?_
    refine thenQ_n (hK5 _ _ ?_)
    refine WC.seq (fun K6 hK6 => ?_)
    refine WC.region ?_
    refine WL.op rfl (opW.moveV (v := st.v) rfl ?_)
    refine WL.op rfl (opW.call (gget_ok _ st xs (by rw [hu20]; exact SlR.head (hS.sl (v := fv) (xs := xs ++ [165, 165, 165]) (by first | exact .h0 | exact .h1 | exact .h2 | exact .h3 | exact .h4 | exact .h5 | exact .h6 | exact .h7 | exact .h8 | exact .h9 | exact .h10 | exact .h11 | exact .h12 | exact .h13 | exact .h14)) (by omega) (by omega)) (by omega)) rfl ?_)
    rintro _ w hgr
    obtain ⟨x4, i4, l4, rfl, hg4, hSg⟩ := gotTR_of hgr hG
    replace hS := hS.gtMerge hSg
    refine WL.op rfl (opW.moveV (v := .tuple #[.agg (Enc.enc x4), .int .i64 ((tk : Nat) : Int), .int .i64 er]) rfl ?_)
    refine WL.op rfl (opW.extract rfl rfl ?_)
    refine WL.op rfl (opW.extract rfl rfl ?_)
    refine WL.op rfl (opW.extract rfl rfl ?_)
    refine WL.op rfl (opW.allocA hS ?_)
    intro b4 w _ hS
    refine WL.op0 (opW.storeE (b := b4) (r := x4) hS rfl rfl (by first | exact .h0 | exact .h1 | exact .h2 | exact .h3 | exact .h4 | exact .h5 | exact .h6 | exact .h7 | exact .h8 | exact .h9 | exact .h10 | exact .h11 | exact .h12 | exact .h13 | exact .h14) (by rw [tx_zero]; exact Enc.size_eq _) ?_)
    intro w hS; replace hS := hS _ (by first | exact .h0 | exact .h1 | exact .h2 | exact .h3 | exact .h4 | exact .h5 | exact .h6 | exact .h7 | exact .h8 | exact .h9 | exact .h10 | exact .h11 | exact .h12 | exact .h13 | exact .h14)
    refine WL.op rfl (opW.assignI rfl ?_)
    refine WL.op rfl (opW.assignI rfl ?_)
    refine WL.nil ?_
    refine thenQ_n (hK6 _ _ ?_)
    refine WC.seq (fun K7 hK7 => ?_)
    refine WC.region ?_
    refine WL.op rfl (opW.moveV (v := sb.v) rfl ?_)
    refine WL.op rfl (opW.call (rgget_ok _ sb xs (hb.bel hS.old) (by omega)) rfl ?_)
    rintro _ w hgr
    obtain ⟨x7, i7, l7, rfl, hg7, hSg⟩ := gotTR_of hgr hG
    replace hS := hS.gtMerge hSg
    refine WL.op rfl (opW.moveV (v := .tuple #[.agg (Enc.enc x7), .int .i64 ((tk : Nat) : Int), .int .i64 er]) rfl ?_)
    refine WL.op rfl (opW.extract rfl rfl ?_)
    refine WL.op rfl (opW.extract rfl rfl ?_)
    refine WL.op rfl (opW.extract rfl rfl ?_)
    refine WL.op rfl (opW.allocA hS ?_)
    intro b7 w _ hS
    refine WL.op0 (opW.storeE (b := b7) (r := x7) hS rfl rfl (by first | exact .h0 | exact .h1 | exact .h2 | exact .h3 | exact .h4 | exact .h5 | exact .h6 | exact .h7 | exact .h8 | exact .h9 | exact .h10 | exact .h11 | exact .h12 | exact .h13 | exact .h14) (by rw [tx_zero]; exact Enc.size_eq _) ?_)
    intro w hS; replace hS := hS _ (by first | exact .h0 | exact .h1 | exact .h2 | exact .h3 | exact .h4 | exact .h5 | exact .h6 | exact .h7 | exact .h8 | exact .h9 | exact .h10 | exact .h11 | exact .h12 | exact .h13 | exact .h14)
    refine WL.op rfl (opW.assignI rfl ?_)
    refine WL.op rfl (opW.assignI rfl ?_)
    refine WL.nil ?_
    refine thenQ_n (hK7 _ _ ?_)
    refine WC.seq (fun K8 hK8 => ?_)
    refine WC.region ?_
    refine WL.op rfl (opW.moveV (v := st.v) rfl ?_)
    refine WL.op rfl (opW.call (whole_ok _ st xs (by rw [hu20]; exact SlR.head (hS.sl (v := fv) (xs := xs ++ [165, 165, 165]) (by first | exact .h0 | exact .h1 | exact .h2 | exact .h3 | exact .h4 | exact .h5 | exact .h6 | exact .h7 | exact .h8 | exact .h9 | exact .h10 | exact .h11 | exact .h12 | exact .h13 | exact .h14)) (by omega) (by omega)) (by omega)) rfl ?_)
    rintro _ w hgr
    obtain ⟨x10, i10, l10, rfl, hg10, hSg⟩ := gotWR_of hgr hW
    replace hS := hS.gtMerge hSg
    refine WL.op rfl (opW.moveV (v := .tuple #[.agg (Enc.enc x10), .int .i64 ew]) rfl ?_)
    refine WL.op rfl (opW.extract rfl rfl ?_)
    refine WL.op rfl (opW.extract rfl rfl ?_)
    refine WL.op rfl (opW.allocA hS ?_)
    intro b10 w _ hS
    refine WL.op0 (opW.storeE (b := b10) (r := x10) hS rfl rfl (by first | exact .h0 | exact .h1 | exact .h2 | exact .h3 | exact .h4 | exact .h5 | exact .h6 | exact .h7 | exact .h8 | exact .h9 | exact .h10 | exact .h11 | exact .h12 | exact .h13 | exact .h14) (by rw [tx_zero]; exact Enc.size_eq _) ?_)
    intro w hS; replace hS := hS _ (by first | exact .h0 | exact .h1 | exact .h2 | exact .h3 | exact .h4 | exact .h5 | exact .h6 | exact .h7 | exact .h8 | exact .h9 | exact .h10 | exact .h11 | exact .h12 | exact .h13 | exact .h14)
    refine WL.op rfl (opW.assignI rfl ?_)
    refine WL.nil ?_
    refine thenQ_n (hK8 _ _ ?_)
    refine WC.seq (fun K9 hK9 => ?_)
    refine WC.region ?_
    refine WL.op rfl (opW.moveV (v := sb.v) rfl ?_)
    refine WL.op rfl (opW.call (rwhole_ok _ sb xs (hb.bel hS.old) (by omega)) rfl ?_)
    rintro _ w hgr
    obtain ⟨x12, i12, l12, rfl, hg12, hSg⟩ := gotWR_of hgr hW
    replace hS := hS.gtMerge hSg
    refine WL.op rfl (opW.moveV (v := .tuple #[.agg (Enc.enc x12), .int .i64 ew]) rfl ?_)
    refine WL.op rfl (opW.extract rfl rfl ?_)
    refine WL.op rfl (opW.extract rfl rfl ?_)
    refine WL.op rfl (opW.allocA hS ?_)
    intro b12 w _ hS
    refine WL.op0 (opW.storeE (b := b12) (r := x12) hS rfl rfl (by first | exact .h0 | exact .h1 | exact .h2 | exact .h3 | exact .h4 | exact .h5 | exact .h6 | exact .h7 | exact .h8 | exact .h9 | exact .h10 | exact .h11 | exact .h12 | exact .h13 | exact .h14) (by rw [tx_zero]; exact Enc.size_eq _) ?_)
    intro w hS; replace hS := hS _ (by first | exact .h0 | exact .h1 | exact .h2 | exact .h3 | exact .h4 | exact .h5 | exact .h6 | exact .h7 | exact .h8 | exact .h9 | exact .h10 | exact .h11 | exact .h12 | exact .h13 | exact .h14)
    refine WL.op rfl (opW.assignI rfl ?_)
    refine WL.nil ?_
    refine thenQ_n (hK9 _ _ ?_)
    refine WC.seq (fun K10 hK10 => ?_)
    refine WC.seq (fun K11 hK11 => ?_)
    refine WC.region ?_
    refine WL.op rfl (opW.loadV rfl (hS.ldA (b := b4) (cs := Enc.enc x4) (by first | exact .h0 | exact .h1 | exact .h2 | exact .h3 | exact .h4 | exact .h5 | exact .h6 | exact .h7 | exact .h8 | exact .h9 | exact .h10 | exact .h11 | exact .h12 | exact .h13 | exact .h14) (by exact Enc.size_eq _)) ?_)
    refine WL.op rfl (opW.loadV rfl (hS.ldA (b := b7) (cs := Enc.enc x7) (by first | exact .h0 | exact .h1 | exact .h2 | exact .h3 | exact .h4 | exact .h5 | exact .h6 | exact .h7 | exact .h8 | exact .h9 | exact .h10 | exact .h11 | exact .h12 | exact .h13 | exact .h14) (by exact Enc.size_eq _)) ?_)
    refine WL.op rfl (opW.call (sameTx_ok _ x4 x7 xt xt i4 i7 l4 l7 (hS.gtIsT hg4 (by first | exact .h0 | exact .h1 | exact .h2 | exact .h3 | exact .h4 | exact .h5 | exact .h6 | exact .h7 | exact .h8 | exact .h9 | exact .h10 | exact .h11 | exact .h12 | exact .h13 | exact .h14)) (hS.gtIsT hg7 (by first | exact .h0 | exact .h1 | exact .h2 | exact .h3 | exact .h4 | exact .h5 | exact .h6 | exact .h7 | exact .h8 | exact .h9 | exact .h10 | exact .h11 | exact .h12 | exact .h13 | exact .h14))) rfl ?_)
    rintro _ w ⟨rfl, hw⟩; replace hS := hS.bel hw
    rw [decide_eq_true (rfl : xt = xt)]
    refine WL.op rfl (opW.not rfl ?_)
    refine WL.op rfl (opW.moveB rfl ?_)
    refine WL.gT 47 rfl rfl rfl (WL.op rfl (opW.moveI rfl ?_))
    refine WL.gT 47 rfl rfl rfl (WL.op rfl (opW.moveI rfl ?_))
    refine WL.gT 47 rfl rfl rfl (WL.op rfl (opW.boolF (by simp) (opW.neq rfl rfl ⟨rfl, rfl⟩) ?_))
    refine WL.op rfl (opW.pickT rfl rfl ?_)
    refine WL.op rfl (opW.moveB rfl ?_)
    refine WL.gT 52 rfl rfl rfl (WL.op rfl (opW.moveI rfl ?_))
    refine WL.gT 52 rfl rfl rfl (WL.op rfl (opW.moveI rfl ?_))
    refine WL.gT 52 rfl rfl rfl (WL.op rfl (opW.boolF (by simp) (opW.neq rfl rfl ⟨rfl, rfl⟩) ?_))
    refine WL.op rfl (opW.pickT rfl rfl ?_)
    refine WL.op rfl (opW.moveB rfl ?_)
    refine WL.gT 57 rfl rfl rfl (WL.op rfl (opW.loadV rfl (hS.ldA (b := b10) (cs := Enc.enc x10) (by first | exact .h0 | exact .h1 | exact .h2 | exact .h3 | exact .h4 | exact .h5 | exact .h6 | exact .h7 | exact .h8 | exact .h9 | exact .h10 | exact .h11 | exact .h12 | exact .h13 | exact .h14) (by exact Enc.size_eq _)) ?_))
    refine WL.gT 57 rfl rfl rfl (WL.op rfl (opW.loadV rfl (hS.ldA (b := b12) (cs := Enc.enc x12) (by first | exact .h0 | exact .h1 | exact .h2 | exact .h3 | exact .h4 | exact .h5 | exact .h6 | exact .h7 | exact .h8 | exact .h9 | exact .h10 | exact .h11 | exact .h12 | exact .h13 | exact .h14) (by exact Enc.size_eq _)) ?_))
    refine WL.gT 57 rfl rfl rfl (WL.op rfl (opW.call (sameTx_ok _ x10 x12 xw xw i10 i12 l10 l12 (hS.gtIsT hg10 (by first | exact .h0 | exact .h1 | exact .h2 | exact .h3 | exact .h4 | exact .h5 | exact .h6 | exact .h7 | exact .h8 | exact .h9 | exact .h10 | exact .h11 | exact .h12 | exact .h13 | exact .h14)) (hS.gtIsT hg12 (by first | exact .h0 | exact .h1 | exact .h2 | exact .h3 | exact .h4 | exact .h5 | exact .h6 | exact .h7 | exact .h8 | exact .h9 | exact .h10 | exact .h11 | exact .h12 | exact .h13 | exact .h14))) rfl ?_))
    rintro _ w ⟨rfl, hw⟩; replace hS := hS.bel hw
    rw [decide_eq_true (rfl : xw = xw)]
    refine WL.gT 57 rfl rfl rfl (WL.op rfl (opW.not rfl ?_))
    refine WL.op rfl (opW.pickT rfl rfl ?_)
    refine WL.op rfl (opW.moveB rfl ?_)
    refine WL.gT 63 rfl rfl rfl (WL.op rfl (opW.moveI rfl ?_))
    refine WL.gT 63 rfl rfl rfl (WL.op rfl (opW.moveI rfl ?_))
    refine WL.gT 63 rfl rfl rfl (WL.op rfl (opW.boolF (by simp) (opW.neq rfl rfl ⟨rfl, rfl⟩) ?_))
    refine WL.op rfl (opW.pickT rfl rfl ?_)
    refine WL.op rfl (opW.moveB rfl ?_)
    refine WL.gT 68 rfl rfl rfl (WL.op rfl (opW.moveV (v := st.v) rfl ?_))
    refine WL.gT 68 rfl rfl rfl (WL.op rfl (opW.moveV (v := sb.v) rfl ?_))
    refine WL.gT 68 rfl rfl rfl (WL.op rfl (opW.call (leftBytes2 _ fv st.v sb.v xs hu20 hcf (hS.sl (v := fv) (xs := xs ++ [165, 165, 165]) (by first | exact .h0 | exact .h1 | exact .h2 | exact .h3 | exact .h4 | exact .h5 | exact .h6 | exact .h7 | exact .h8 | exact .h9 | exact .h10 | exact .h11 | exact .h12 | exact .h13 | exact .h14)) (hb.bel hS.old)) rfl ?_))
    rintro _ w ⟨rfl, hw⟩; replace hS := hS.bel hw
    refine WL.gT 68 rfl rfl rfl (WL.op rfl (opW.not rfl ?_))
    refine WL.op rfl (opW.pickT rfl rfl ?_)
    refine WL.nil ?_
    refine thenQ_n (hK11 _ _ ?_)
    refine WC.cond _ rfl (fun hc1 => ?_) (fun hc1 => ?_)
    ·
      have hr1 := hc1
      try simp only [decide_eq_true_eq, decide_eq_false_iff_not, Bool.and_eq_true, Bool.or_eq_true, Bool.and_eq_false_iff, Bool.or_eq_false_iff, Bool.not_eq_true', Bool.not_eq_false', Int.not_lt, Int.not_le] at hc1
      simp at hr1
    ·
      have hr1 := hc1
      try simp only [decide_eq_true_eq, decide_eq_false_iff_not, Bool.and_eq_true, Bool.or_eq_true, Bool.and_eq_false_iff, Bool.or_eq_false_iff, Bool.not_eq_true', Bool.not_eq_false', Int.not_lt, Int.not_le] at hc1
      refine WC.skip ?_
      refine thenQ_n (hK10 _ _ ?_)
      refine WC.seq (fun K12 hK12 => ?_)
      refine WC.region ?_
      refine WL.op rfl (opW.buildE (r := (⟨⟨none, 0, 0⟩⟩ : BookS)) (ps := BookS.parts (⟨⟨none, 0, 0⟩⟩ : BookS)) (BookS.enc_eq _) (by first | rfl | (simp only [markK, markS, enc_vset, enc_vz, Header.enc_eq, Header.parts, Instr.enc_eq, Instr.parts, Lookup.enc_eq, Lookup.parts, Message.enc_eq, Message.parts, Tx.enc_eq, Tx.parts, Reader.enc_eq, Reader.parts, Stop.enc_eq, Stop.parts, Taker.enc_eq, Taker.parts, Reading.enc_eq, Reading.parts, ShByte.enc_eq, ShByte.parts, ShKey.enc_eq, ShKey.parts, BookS.enc_eq, BookS.parts, ShSig.enc_eq, ShSig.parts]; rfl)) (by (repeat' (first | exact trivial | refine And.intro ?_ ?_)) <;> first | rfl | exact Enc.size_eq _ | (simp; done)) ?_)
      refine WL.op rfl (opW.allocA hS ?_)
      intro b14 w _ hS
      refine WL.op0 (opW.storeE (r := (⟨⟨none, 0, 0⟩⟩ : BookS)) hS rfl rfl (by first | exact .h0 | exact .h1 | exact .h2 | exact .h3 | exact .h4 | exact .h5 | exact .h6 | exact .h7 | exact .h8 | exact .h9 | exact .h10 | exact .h11 | exact .h12 | exact .h13 | exact .h14) rfl ?_)
      intro w hS; replace hS := hS _ (by first | exact .h0 | exact .h1 | exact .h2 | exact .h3 | exact .h4 | exact .h5 | exact .h6 | exact .h7 | exact .h8 | exact .h9 | exact .h10 | exact .h11 | exact .h12 | exact .h13 | exact .h14)
      refine WL.nil ?_
      refine thenQ_n (hK12 _ _ ?_)
      refine WC.seq (fun K13 hK13 => ?_)
      refine WC.region ?_
      replace hS := hS.ownFront (v := fv) (E := 5) (xs := xs ++ [165, 165, 165]) (k := xs.length) (m := xs.length + 3) (by simp) (by omega) (by omega) (by first | exact .h0 | exact .h1 | exact .h2 | exact .h3 | exact .h4 | exact .h5 | exact .h6 | exact .h7 | exact .h8 | exact .h9 | exact .h10 | exact .h11 | exact .h12 | exact .h13 | exact .h14)
      rw [List.take_left, ← hu20] at hS
      replace hS := (hS.pick (e := blkE b14 (Enc.enc (BookS.mk ⟨none, 0, 0⟩)) 45) (by first | exact .h0 | exact .h1 | exact .h2 | exact .h3 | exact .h4 | exact .h5 | exact .h6 | exact .h7 | exact .h8 | exact .h9 | exact .h10 | exact .h11 | exact .h12 | exact .h13 | exact .h14)).bkNew
      replace hS := (hS.pick (e := ownE st.v 5 xs) (by first | exact .h0 | exact .h1 | exact .h2 | exact .h3 | exact .h4 | exact .h5 | exact .h6 | exact .h7 | exact .h8 | exact .h9 | exact .h10 | exact .h11 | exact .h12 | exact .h13 | exact .h14)).pick (e := bkE b14 ⟨none, 0, 0⟩ []) (by first | exact .h0 | exact .h1 | exact .h2 | exact .h3 | exact .h4 | exact .h5 | exact .h6 | exact .h7 | exact .h8 | exact .h9 | exact .h10 | exact .h11 | exact .h12 | exact .h13 | exact .h14)
      refine WL.op rfl (opW.moveV (v := st.v) rfl ?_)
      refine WL.op rfl (opW.call (bkBytes_ok _ _ _ b14 ⟨none, 0, 0⟩ [] st.v xs (by decide) hS) rfl ?_)
      rintro v76 w ⟨sv1, g1, hS⟩
      refine WL.nil ?_
      refine thenQ_n (hK13 _ _ ?_)
      refine WC.seq (fun K14 hK14 => ?_)
      refine WC.region ?_
      replace hS := (hS.pick (e := gtE x4 i4 l4 xt) (by first | exact .h0 | exact .h1 | exact .h2 | exact .h3 | exact .h4 | exact .h5 | exact .h6 | exact .h7 | exact .h8 | exact .h9 | exact .h10 | exact .h11 | exact .h12 | exact .h13 | exact .h14)).gtOpen
      unfold gotTL gotL at hS
      simp only [List.cons_append, List.nil_append] at hS
      replace hS := ((((hS.pick (e := b2E (zipL l4 xt.m.lks)) (by first | exact .h0 | exact .h1 | exact .h2 | exact .h3 | exact .h4 | exact .h5 | exact .h6 | exact .h7 | exact .h8 | exact .h9 | exact .h10 | exact .h11 | exact .h12 | exact .h13 | exact .h14)).pick (e := b2E (zipI i4 xt.m.ins)) (by first | exact .h0 | exact .h1 | exact .h2 | exact .h3 | exact .h4 | exact .h5 | exact .h6 | exact .h7 | exact .h8 | exact .h9 | exact .h10 | exact .h11 | exact .h12 | exact .h13 | exact .h14)).pick (e := ownE x4.m.keys.v 58 xt.m.keys) (by first | exact .h0 | exact .h1 | exact .h2 | exact .h3 | exact .h4 | exact .h5 | exact .h6 | exact .h7 | exact .h8 | exact .h9 | exact .h10 | exact .h11 | exact .h12 | exact .h13 | exact .h14)).pick (e := ownE x4.sigs.v 62 xt.sigs) (by first | exact .h0 | exact .h1 | exact .h2 | exact .h3 | exact .h4 | exact .h5 | exact .h6 | exact .h7 | exact .h8 | exact .h9 | exact .h10 | exact .h11 | exact .h12 | exact .h13 | exact .h14)).pick (e := bkE b14 sv1 ([] ++ [g1])) (by first | exact .h0 | exact .h1 | exact .h2 | exact .h3 | exact .h4 | exact .h5 | exact .h6 | exact .h7 | exact .h8 | exact .h9 | exact .h10 | exact .h11 | exact .h12 | exact .h13 | exact .h14)
      have hl14 := hg4.2.2.2.1
      have hl24 := hg4.2.2.2.2.2.1
      refine WL.op rfl (opW.loadV rfl (hS.ldA (b := b4) (cs := Enc.enc x4) (by first | exact .h0 | exact .h1 | exact .h2 | exact .h3 | exact .h4 | exact .h5 | exact .h6 | exact .h7 | exact .h8 | exact .h9 | exact .h10 | exact .h11 | exact .h12 | exact .h13 | exact .h14) (by exact Enc.size_eq _)) ?_)
      refine WL.op rfl (opW.call (bkTx_ok _ _ _ b14 sv1 ([] ++ [g1]) x4 xt i4 l4 hS (fun w hw => hw.sl (v := x4.m.instrs.v) (xs := i4) (by first | exact .h0 | exact .h1 | exact .h2 | exact .h3 | exact .h4 | exact .h5 | exact .h6 | exact .h7 | exact .h8 | exact .h9 | exact .h10 | exact .h11 | exact .h12 | exact .h13 | exact .h14)) (fun w hw => hw.sl (v := x4.m.lookups.v) (xs := l4) (by first | exact .h0 | exact .h1 | exact .h2 | exact .h3 | exact .h4 | exact .h5 | exact .h6 | exact .h7 | exact .h8 | exact .h9 | exact .h10 | exact .h11 | exact .h12 | exact .h13 | exact .h14)) hg4.2.2.2.1 hg4.2.2.2.2.2.1 (by (try simp only [List.nil_append, List.length_cons, List.length_nil]); omega)) rfl ?_)
      rintro v78 w ⟨sv2, pg2, hpl4, hS⟩
      simp only [List.nil_append, List.length_cons, List.length_nil] at hpl4
      refine WL.nil ?_
      refine thenQ_n (hK14 _ _ ?_)
      refine WC.seq (fun K15 hK15 => ?_)
      refine WC.region ?_
      replace hS := (hS.pick (e := gtE x10 i10 l10 xw) (by first | exact .h0 | exact .h1 | exact .h2 | exact .h3 | exact .h4 | exact .h5 | exact .h6 | exact .h7 | exact .h8 | exact .h9 | exact .h10 | exact .h11 | exact .h12 | exact .h13 | exact .h14)).gtOpen
      unfold gotTL gotL at hS
      simp only [List.cons_append, List.nil_append] at hS
      replace hS := ((((hS.pick (e := b2E (zipL l10 xw.m.lks)) (by first | exact .h0 | exact .h1 | exact .h2 | exact .h3 | exact .h4 | exact .h5 | exact .h6 | exact .h7 | exact .h8 | exact .h9 | exact .h10 | exact .h11 | exact .h12 | exact .h13 | exact .h14)).pick (e := b2E (zipI i10 xw.m.ins)) (by first | exact .h0 | exact .h1 | exact .h2 | exact .h3 | exact .h4 | exact .h5 | exact .h6 | exact .h7 | exact .h8 | exact .h9 | exact .h10 | exact .h11 | exact .h12 | exact .h13 | exact .h14)).pick (e := ownE x10.m.keys.v 58 xw.m.keys) (by first | exact .h0 | exact .h1 | exact .h2 | exact .h3 | exact .h4 | exact .h5 | exact .h6 | exact .h7 | exact .h8 | exact .h9 | exact .h10 | exact .h11 | exact .h12 | exact .h13 | exact .h14)).pick (e := ownE x10.sigs.v 62 xw.sigs) (by first | exact .h0 | exact .h1 | exact .h2 | exact .h3 | exact .h4 | exact .h5 | exact .h6 | exact .h7 | exact .h8 | exact .h9 | exact .h10 | exact .h11 | exact .h12 | exact .h13 | exact .h14)).pick (e := bkE b14 sv2 pg2) (by first | exact .h0 | exact .h1 | exact .h2 | exact .h3 | exact .h4 | exact .h5 | exact .h6 | exact .h7 | exact .h8 | exact .h9 | exact .h10 | exact .h11 | exact .h12 | exact .h13 | exact .h14)
      have hl110 := hg10.2.2.2.1
      have hl210 := hg10.2.2.2.2.2.1
      refine WL.op rfl (opW.loadV rfl (hS.ldA (b := b10) (cs := Enc.enc x10) (by first | exact .h0 | exact .h1 | exact .h2 | exact .h3 | exact .h4 | exact .h5 | exact .h6 | exact .h7 | exact .h8 | exact .h9 | exact .h10 | exact .h11 | exact .h12 | exact .h13 | exact .h14) (by exact Enc.size_eq _)) ?_)
      refine WL.op rfl (opW.call (bkTx_ok _ _ _ b14 sv2 pg2 x10 xw i10 l10 hS (fun w hw => hw.sl (v := x10.m.instrs.v) (xs := i10) (by first | exact .h0 | exact .h1 | exact .h2 | exact .h3 | exact .h4 | exact .h5 | exact .h6 | exact .h7 | exact .h8 | exact .h9 | exact .h10 | exact .h11 | exact .h12 | exact .h13 | exact .h14)) (fun w hw => hw.sl (v := x10.m.lookups.v) (xs := l10) (by first | exact .h0 | exact .h1 | exact .h2 | exact .h3 | exact .h4 | exact .h5 | exact .h6 | exact .h7 | exact .h8 | exact .h9 | exact .h10 | exact .h11 | exact .h12 | exact .h13 | exact .h14)) hg10.2.2.2.1 hg10.2.2.2.2.2.1 (by (try simp only [List.nil_append, List.length_cons, List.length_nil]); omega)) rfl ?_)
      rintro v80 w ⟨sv3, pg3, hpl10, hS⟩
      refine WL.nil ?_
      refine thenQ_n (hK15 _ _ ?_)
      refine WC.seq (fun K16 hK16 => ?_)
      refine WC.region ?_
      refine WL.op rfl (opW.call (apart_ok _ _ _ b14 sv3 pg3 hS) rfl ?_)
      rintro _ w ⟨rfl, hS⟩
      refine WL.op rfl (opW.moveB rfl ?_)
      refine WL.gT 82 rfl rfl rfl (WL.op rfl (opW.call (lives4_ok _) rfl ?_))
      rintro _ w ⟨rfl, hw⟩; replace hS := hS.bel hw
      refine WL.op rfl (opW.pickT rfl rfl ?_)
      refine WL.op rfl (opW.assignB rfl ?_)
      refine WL.nil ?_
      refine thenQ_n (hK16 _ _ ?_)
      refine WC.ret ?_
      refine bodyQ_ret (.tmpB rfl .nil) ?_
      exact ⟨rfl, hS.old⟩

end Go.Fer
