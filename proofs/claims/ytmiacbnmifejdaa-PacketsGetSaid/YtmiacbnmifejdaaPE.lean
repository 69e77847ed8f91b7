/- packets.Get -/
import Derived.Test.YtmiacbnmifejdaaPC
import Derived.Test.YtmiacbnmifejdaaPA
set_option linter.all false
namespace Go.Fer
open Go Go.Proofs Go.RowKit

theorem clip_sig (w0 : World) (v : Value) (xs : List (Vector UInt8 64)) (hx : SlR w0 v xs) : Ret Try.prog 45 #[v] w0 (fun u w' => u = cutV v 0 xs.length xs.length (Enc.sz ((Vector UInt8 64))) ∧ Bel w0 w') := by
  refine Ret.enter (args := [v]) Try.func45 rfl Try.ntmps45 Try.results45 rfl ?_
  have hS := St.start w0
  refine WC.seq (fun K1 hK1 => ?_)
  refine WC.region ?_
  refine WL.op rfl (opW.assignV (v := .slice none 0 0) rfl ?_)
  refine WL.nil ?_
  refine thenQ_n (hK1 _ _ ?_)
  refine WC.seq (fun K2 hK2 => ?_)
  refine WC.region ?_
  refine WL.op rfl (opW.moveV (v := v) rfl ?_)
  refine WL.op rfl (opW.moveV (v := v) rfl ?_)
  refine WL.op rfl (opW.lenV rfl ((hx.bel hS.old)) ?_)
  refine WL.op rfl (opW.moveV (v := v) rfl ?_)
  refine WL.op rfl (opW.lenV rfl ((hx.bel hS.old)) ?_)
  refine WL.op rfl (opW.cutS (hx.bel hS.old) ⟨⟨_, rfl⟩, hx.cap⟩ ⟨⟨_, rfl⟩, Nat.le_refl _⟩ ⟨rfl, Nat.zero_le _⟩ ?_)
  refine WL.op rfl (opW.assignV rfl ?_)
  refine WL.nil ?_
  refine thenQ_n (hK2 _ _ ?_)
  refine WC.ret ?_
  refine bodyQ_ret (.tmp .nil) ?_
  exact ⟨rfl, hS.old⟩

theorem Reading.set_m1 (x : Reading) (v : Message) : spl (Enc.enc x) 1 (Enc.enc v) = Enc.enc { x with tx := { x.tx with m := v } } := by
  have h := spl_in (cs := Enc.enc x) (v := Enc.enc v) (o := 0) (n := 40) (i := 1) (by rw [Enc.size_eq]; decide) (by rw [Enc.size_eq]; decide)
  rw [Reading.ex_tx, Tx.set_m, Reading.set_tx] at h
  exact h
theorem cut_slv (s : SlV) (l h m z : Nat) : ∃ u : SlV, cutV s.v l h m z = u.v := ⟨⟨_, _, _⟩, rfl⟩

theorem rd_zero : (joinA [joinA [#[.slice none 0 0], joinA [#[.bool false], joinA [#[.int .u8 0], #[.int .u8 0], #[.int .u8 0]], #[.slice none 0 0], (Array.replicate 32 (.int .u8 0)), #[.slice none 0 0], #[.slice none 0 0]]], #[.slice none 0 0]]) = Enc.enc (⟨⟨⟨none, 0, 0⟩, (⟨false, ⟨0, 0, 0⟩, ⟨none, 0, 0⟩, vz 32, ⟨none, 0, 0⟩, ⟨none, 0, 0⟩⟩ : Message)⟩, ⟨none, 0, 0⟩⟩ : Reading) := by
  simp only [Reading.enc_eq, Reading.parts, enc_vz, Tx.enc_eq, Tx.parts, Message.enc_eq, Message.parts, Header.enc_eq, Header.parts]; rfl

set_option maxRecDepth 20000 in
set_option maxHeartbeats 4000000 in
theorem gget_ok (w0 : World) (sb : SlV) (xs : List UInt8) (hb : SlR w0 sb.v xs) (hxl : xs.length ≤ 1000000000) : Ret Try.prog 19 #[sb.v] w0 (gotTR w0 xs) := by
  refine Ret.enter (args := [sb.v]) Try.func19 rfl Try.ntmps19 Try.results19 rfl ?_
  have hS := St.start w0
  refine WC.seq (fun K1 hK1 => ?_)
  refine WC.region ?_
  refine WL.op rfl (opW.allocA hS ?_)
  intro b2 w _ hS
  refine WL.op rfl (opW.assignI rfl ?_)
  refine WL.op rfl (opW.assignI rfl ?_)
  rw [tx_zero] at hS
  refine WL.nil ?_
  refine thenQ_n (hK1 _ _ ?_)
  refine WC.seq (fun K2 hK2 => ?_)
  refine WC.region ?_
  refine WL.op rfl (opW.moveV (v := sb.v) rfl ?_)
  refine WL.op rfl (opW.call (get_short _ _ xs (hb.bel hS.old)) rfl ?_)
  rintro _ w ⟨rfl, hw⟩; replace hS := hS.bel hw
  refine WL.op rfl (opW.moveV (v := .tuple #[.int .i64 (gs xs 0 0).1, .int .i64 (gs xs 0 0).2.1, .int .i64 (gs xs 0 0).2.2]) rfl ?_)
  refine WL.op rfl (opW.extract rfl rfl ?_)
  refine WL.op rfl (opW.extract rfl rfl ?_)
  refine WL.op rfl (opW.extract rfl rfl ?_)
  refine WL.op rfl (opW.assignI rfl ?_)
  refine WL.op rfl (opW.assignI rfl ?_)
  refine WL.op rfl (opW.assignI rfl ?_)
  refine WL.nil ?_
  refine thenQ_n (hK2 _ _ ?_)
  refine WC.seq (fun K3 hK3 => ?_)
  refine WC.seq (fun K4 hK4 => ?_)
  refine WC.region ?_
  refine WL.op rfl (opW.moveI rfl ?_)
  refine WL.op rfl (opW.neq rfl rfl ?_)
  refine WL.nil ?_
  refine thenQ_n (hK4 _ _ ?_)
  refine WC.cond _ rfl (fun hc0 => ?_) (fun hc0 => ?_)
  ·
    have hr0 := hc0
    try simp only [decide_eq_true_eq, decide_eq_false_iff_not, Bool.and_eq_true, Bool.or_eq_true, Bool.and_eq_false_iff, Bool.or_eq_false_iff, Bool.not_eq_true', Bool.not_eq_false', Int.not_lt, Int.not_le] at hc0
    have h0 : (gs xs 0 0).2.2 ≠ 0 := by simpa using hr0
    refine WC.seq (fun K5 hK5 => ?_)
    refine WC.region ?_
    refine WL.op rfl (opW.buildE (r := (⟨⟨none, 0, 0⟩, (⟨false, ⟨0, 0, 0⟩, ⟨none, 0, 0⟩, vz 32, ⟨none, 0, 0⟩, ⟨none, 0, 0⟩⟩ : Message)⟩ : Tx)) (ps := Tx.parts (⟨⟨none, 0, 0⟩, (⟨false, ⟨0, 0, 0⟩, ⟨none, 0, 0⟩, vz 32, ⟨none, 0, 0⟩, ⟨none, 0, 0⟩⟩ : Message)⟩ : Tx)) (Tx.enc_eq _) (by simp only [enc_vset, enc_vz, Header.enc_eq, Header.parts, Message.enc_eq, Message.parts, Tx.enc_eq, Tx.parts]; rfl) (by (repeat' (first | exact trivial | refine And.intro ?_ ?_)) <;> first | rfl | exact Enc.size_eq _ | (simp; done)) ?_)
    refine WL.op rfl (opW.moveI rfl ?_)
    refine WL.op0 (opW.storeE (b := b2) (r := (⟨⟨none, 0, 0⟩, (⟨false, ⟨0, 0, 0⟩, ⟨none, 0, 0⟩, vz 32, ⟨none, 0, 0⟩, ⟨none, 0, 0⟩⟩ : Message)⟩ : Tx)) hS rfl rfl (by first | exact .h0 | exact .h1 | exact .h2 | exact .h3 | exact .h4 | exact .h5 | exact .h6 | exact .h7 | exact .h8 | exact .h9 | exact .h10 | exact .h11 | exact .h12 | exact .h13 | exact .h14) (by exact Enc.size_eq _) ?_)
    intro w hS; replace hS := hS _ (by first | exact .h0 | exact .h1 | exact .h2 | exact .h3 | exact .h4 | exact .h5 | exact .h6 | exact .h7 | exact .h8 | exact .h9 | exact .h10 | exact .h11 | exact .h12 | exact .h13 | exact .h14)
    refine WL.op rfl (opW.assignI rfl ?_)
    refine WL.op rfl (opW.assignI rfl ?_)
    refine WL.nil ?_
    refine thenQ_n (hK5 _ _ ?_)
    refine WC.ret ?_
    refine thenQ_r ?_
    refine bodyQ_ret (.cell (by exact hS.ldA (by first | exact .h0 | exact .h1 | exact .h2 | exact .h3 | exact .h4 | exact .h5 | exact .h6 | exact .h7 | exact .h8 | exact .h9 | exact .h10 | exact .h11 | exact .h12 | exact .h13 | exact .h14) (by exact Enc.size_eq _)) (.tmpI rfl (.tmpI rfl .nil))) ?_
    refine ⟨(⟨⟨none, 0, 0⟩, (⟨false, ⟨0, 0, 0⟩, ⟨none, 0, 0⟩, vz 32, ⟨none, 0, 0⟩, ⟨none, 0, 0⟩⟩ : Message)⟩ : Tx), [], [], by rw [gtF_e h0]; rfl, by rw [gtF_e h0]; exact zGotM, ?_⟩
    rw [gtF_e h0]
    exact zGotTL (hS.sub (List.nil_sublist _))
  ·
    have hr0 := hc0
    try simp only [decide_eq_true_eq, decide_eq_false_iff_not, Bool.and_eq_true, Bool.or_eq_true, Bool.and_eq_false_iff, Bool.or_eq_false_iff, Bool.not_eq_true', Bool.not_eq_false', Int.not_lt, Int.not_le] at hc0
    have h0 : (gs xs 0 0).2.2 = 0 := by simpa using hr0
    have hgb := gs_bound xs 0 0 (by omega) (by omega)
    obtain ⟨n, hn⟩ : ∃ n : Nat, (gs xs 0 0).1 = (n : Int) := ⟨(gs xs 0 0).1.toNat, by omega⟩
    obtain ⟨t, ht⟩ : ∃ t : Nat, (gs xs 0 0).2.1 = (t : Int) := ⟨(gs xs 0 0).2.1.toNat, by omega⟩
    have hnn : (gs xs 0 0).1.toNat = n := by omega
    have htt : (gs xs 0 0).2.1.toNat = t := by omega
    have htl : t ≤ xs.length := by have := hgb.2.2.2 h0; omega
    have hn6 : n < 65536 := by omega
    rw [hn, ht]
    refine WC.skip ?_
    refine thenQ_n (hK3 _ _ ?_)
    refine WC.seq (fun K6 hK6 => ?_)
    refine WC.region ?_
    refine WL.op rfl (opW.moveV (v := sb.v) rfl ?_)
    refine WL.op rfl (opW.moveI rfl ?_)
    refine WL.op rfl (opW.cutS (hb.bel hS.old) (xs := xs) (l := t) (h' := xs.length) (m := capV sb.v) ⟨rfl, Nat.le_refl _⟩ ⟨⟨rfl, rfl⟩, (hb.bel hS.old).cap⟩ ⟨⟨_, rfl⟩, by omega⟩ ?_)
    have hcs : SlR w0 (cutV sb.v t xs.length (capV sb.v) (Enc.sz UInt8)) (xs.drop t) := by
      have h1 := hb.cut (l := t) (h := xs.length) (m := capV sb.v) (by omega) (Nat.le_refl _) hb.cap (Nat.le_refl _)
      rw [List.take_length] at h1
      exact h1
    obtain ⟨lv0, hlv0⟩ := cut_slv sb t xs.length (capV sb.v) (Enc.sz UInt8)
    rw [hlv0] at hcs
    show WL _ _ _ _ _ (upd _ _ (cutV sb.v t xs.length (capV sb.v) (Enc.sz UInt8))) _
    rw [hlv0]
    refine WL.op rfl (opW.buildE (r := (⟨⟨⟨none, 0, 0⟩, (⟨false, ⟨0, 0, 0⟩, ⟨none, 0, 0⟩, vz 32, ⟨none, 0, 0⟩, ⟨none, 0, 0⟩⟩ : Message)⟩, lv0⟩ : Reading)) (ps := Reading.parts (⟨⟨⟨none, 0, 0⟩, (⟨false, ⟨0, 0, 0⟩, ⟨none, 0, 0⟩, vz 32, ⟨none, 0, 0⟩, ⟨none, 0, 0⟩⟩ : Message)⟩, lv0⟩ : Reading)) (Reading.enc_eq _) (by simp only [enc_vset, enc_vz, Header.enc_eq, Header.parts, Message.enc_eq, Message.parts, Tx.enc_eq, Tx.parts, Reading.parts]; rfl) (by (repeat' (first | exact trivial | refine And.intro ?_ ?_)) <;> first | rfl | exact Enc.size_eq _ | (simp; done)) ?_)
    refine WL.op rfl (opW.allocA hS ?_)
    intro b6 w _ hS
    refine WL.op0 (opW.storeE (r := (⟨⟨⟨none, 0, 0⟩, (⟨false, ⟨0, 0, 0⟩, ⟨none, 0, 0⟩, vz 32, ⟨none, 0, 0⟩, ⟨none, 0, 0⟩⟩ : Message)⟩, lv0⟩ : Reading)) hS rfl rfl (by first | exact .h0 | exact .h1 | exact .h2 | exact .h3 | exact .h4 | exact .h5 | exact .h6 | exact .h7 | exact .h8 | exact .h9 | exact .h10 | exact .h11 | exact .h12 | exact .h13 | exact .h14) (by rw [rd_zero]; exact Enc.size_eq _) ?_)
    intro w hS; replace hS := hS _ (by first | exact .h0 | exact .h1 | exact .h2 | exact .h3 | exact .h4 | exact .h5 | exact .h6 | exact .h7 | exact .h8 | exact .h9 | exact .h10 | exact .h11 | exact .h12 | exact .h13 | exact .h14)
    refine WL.nil ?_
    refine thenQ_n (hK6 _ _ ?_)
    refine WC.seq (fun K7 hK7 => ?_)
    refine WC.seq (fun K8 hK8 => ?_)
    refine WC.region ?_
    refine WL.op rfl (opW.moveI rfl ?_)
    refine WL.op rfl (opW.moveI rfl ?_)
    refine WL.nil ?_
    refine thenQ_n (hK8 _ _ ?_)
    refine WC.block ?_
    refine WC.loop (fun q f w => ∃ (k : Nat) (sg lv : SlV), Fits [(0, sb.v), (2, .pointer (some ⟨b2, 0, none⟩)), (6, .pointer (some ⟨b6, 0, none⟩)), (23, .int .i64 (n : Int)), (24, .int .i64 (k : Int))] f ∧ St w0 [blkE b6 (Enc.enc (⟨⟨sg, (⟨false, ⟨0, 0, 0⟩, ⟨none, 0, 0⟩, vz 32, ⟨none, 0, 0⟩, ⟨none, 0, 0⟩⟩ : Message)⟩, lv⟩ : Reading)) 81, ownE sg.v 62 (chunk k (xs.drop t)), blkE b2 (Enc.enc (⟨⟨none, 0, 0⟩, (⟨false, ⟨0, 0, 0⟩, ⟨none, 0, 0⟩, vz 32, ⟨none, 0, 0⟩, ⟨none, 0, 0⟩⟩ : Message)⟩ : Tx)) 33] w ∧ SlR w0 lv.v (xs.drop (t + 64 * k)) ∧ t + 64 * k ≤ xs.length ∧ k ≤ n ∧ q = n - k) (n) ?_ ?_
    ·
      exact ⟨0, ⟨none, 0, 0⟩, lv0, ⟨rfl, rfl, rfl, rfl, rfl, trivial⟩, ((hS.nilOwn (α := Vector UInt8 64) 62).pick (e := blkE b6 (Enc.enc (⟨⟨⟨none, 0, 0⟩, (⟨false, ⟨0, 0, 0⟩, ⟨none, 0, 0⟩, vz 32, ⟨none, 0, 0⟩, ⟨none, 0, 0⟩⟩ : Message)⟩, lv0⟩ : Reading)) 81) (by first | exact .h0 | exact .h1 | exact .h2 | exact .h3 | exact .h4 | exact .h5 | exact .h6 | exact .h7 | exact .h8 | exact .h9 | exact .h10 | exact .h11 | exact .h12 | exact .h13 | exact .h14)), hcs, by omega, Nat.zero_le _, rfl⟩
    ·
      rintro q f w ⟨k, sg, lv, hfit, hS, hlv, hkl, hkn, hm⟩
      refine WC.fits _ hfit (fun g => ?_)
      clear hfit
      refine WC.seq (fun K9 hK9 => ?_)
      refine WC.region ?_
      refine WL.op rfl (opW.lss rfl rfl ?_)
      refine WL.nil ?_
      refine thenQ_n (hK9 _ _ ?_)
      refine WC.seq (fun K10 hK10 => ?_)
      refine WC.cond _ rfl (fun hc1 => ?_) (fun hc1 => ?_)
      ·
        have hr1 := hc1
        try simp only [decide_eq_true_eq, decide_eq_false_iff_not, Bool.and_eq_true, Bool.or_eq_true, Bool.and_eq_false_iff, Bool.or_eq_false_iff, Bool.not_eq_true', Bool.not_eq_false', Int.not_lt, Int.not_le] at hc1
        refine WC.skip ?_
        refine thenQ_n (hK10 _ _ ?_)
        refine WC.seq (fun K11 hK11 => ?_)
        refine WC.block ?_
        refine WC.seq (fun K12 hK12 => ?_)
        refine WC.region ?_
        refine WL.op rfl (opW.call (sig_ok _ _ _ b6 sg lv (chunk k (xs.drop t)) (xs.drop (t + 64 * k)) hlv (by rw [chunk_len]; omega) hS) rfl ?_)
        rintro _ w ⟨bb, rfl, hsg⟩
        refine WL.op rfl (opW.not rfl ?_)
        refine WL.nil ?_
        refine thenQ_n (hK12 _ _ ?_)
        refine WC.cond _ rfl (fun hc2 => ?_) (fun hc2 => ?_)
        ·
          have hr2 := hc2
          try simp only [decide_eq_true_eq, decide_eq_false_iff_not, Bool.and_eq_true, Bool.or_eq_true, Bool.and_eq_false_iff, Bool.or_eq_false_iff, Bool.not_eq_true', Bool.not_eq_false', Int.not_lt, Int.not_le] at hc2
          obtain ⟨hlt, hS⟩ := hsg.elim (fun h => h.2) (fun h => by rw [h.1] at hr2; cases hr2)
          rw [List.length_drop] at hlt
          have hgs := gtF_short h0 (by rw [hnn, htt]; omega)
          refine WC.seq (fun K13 hK13 => ?_)
          refine WC.region ?_
          refine WL.op rfl (opW.buildE (r := (⟨⟨none, 0, 0⟩, (⟨false, ⟨0, 0, 0⟩, ⟨none, 0, 0⟩, vz 32, ⟨none, 0, 0⟩, ⟨none, 0, 0⟩⟩ : Message)⟩ : Tx)) (ps := Tx.parts (⟨⟨none, 0, 0⟩, (⟨false, ⟨0, 0, 0⟩, ⟨none, 0, 0⟩, vz 32, ⟨none, 0, 0⟩, ⟨none, 0, 0⟩⟩ : Message)⟩ : Tx)) (Tx.enc_eq _) (by simp only [enc_vset, enc_vz, Header.enc_eq, Header.parts, Message.enc_eq, Message.parts, Tx.enc_eq, Tx.parts]; rfl) (by (repeat' (first | exact trivial | refine And.intro ?_ ?_)) <;> first | rfl | exact Enc.size_eq _ | (simp; done)) ?_)
          refine WL.op0 (opW.storeE (b := b2) (r := (⟨⟨none, 0, 0⟩, (⟨false, ⟨0, 0, 0⟩, ⟨none, 0, 0⟩, vz 32, ⟨none, 0, 0⟩, ⟨none, 0, 0⟩⟩ : Message)⟩ : Tx)) hS rfl rfl (by first | exact .h0 | exact .h1 | exact .h2 | exact .h3 | exact .h4 | exact .h5 | exact .h6 | exact .h7 | exact .h8 | exact .h9 | exact .h10 | exact .h11 | exact .h12 | exact .h13 | exact .h14) (by exact Enc.size_eq _) ?_)
          intro w hS; replace hS := hS _ (by first | exact .h0 | exact .h1 | exact .h2 | exact .h3 | exact .h4 | exact .h5 | exact .h6 | exact .h7 | exact .h8 | exact .h9 | exact .h10 | exact .h11 | exact .h12 | exact .h13 | exact .h14)
          refine WL.op rfl (opW.assignI rfl ?_)
          refine WL.op rfl (opW.assignI rfl ?_)
          refine WL.nil ?_
          refine thenQ_n (hK13 _ _ ?_)
          refine WC.ret ?_
          refine blockQ_r ?_
          refine thenQ_r ?_
          refine thenQ_r ?_
          refine blockQ_r ?_
          refine thenQ_r ?_
          refine bodyQ_ret (.cell (by exact hS.ldA (by first | exact .h0 | exact .h1 | exact .h2 | exact .h3 | exact .h4 | exact .h5 | exact .h6 | exact .h7 | exact .h8 | exact .h9 | exact .h10 | exact .h11 | exact .h12 | exact .h13 | exact .h14) (by exact Enc.size_eq _)) (.tmpI rfl (.tmpI rfl .nil))) ?_
          refine ⟨(⟨⟨none, 0, 0⟩, (⟨false, ⟨0, 0, 0⟩, ⟨none, 0, 0⟩, vz 32, ⟨none, 0, 0⟩, ⟨none, 0, 0⟩⟩ : Message)⟩ : Tx), [], [], by rw [hgs]; rfl, by rw [hgs]; exact zGotM, ?_⟩
          rw [hgs]
          exact zGotTL (hS.sub (List.nil_sublist _))
        ·
          have hr2 := hc2
          try simp only [decide_eq_true_eq, decide_eq_false_iff_not, Bool.and_eq_true, Bool.or_eq_true, Bool.and_eq_false_iff, Bool.or_eq_false_iff, Bool.not_eq_true', Bool.not_eq_false', Int.not_lt, Int.not_le] at hc2
          obtain ⟨h64, s2, l2, hl2, hS⟩ := hsg.elim (fun h => by rw [h.1] at hr2; cases hr2) (fun h => h.2)
          refine WC.skip ?_
          refine blockQ_n ?_
          refine thenQ_n (hK11 _ _ ?_)
          refine WC.region ?_
          refine WL.op rfl (opW.add rfl rfl (wrap_i64 (by omega)) ?_)
          refine WL.op rfl (opW.moveI rfl ?_)
          refine WL.nil ?_
          refine thenQ_n ?_
          rw [show chunk k (xs.drop t) ++ [vecOf 64 ((xs.drop (t + 64 * k)).take 64)] = chunk (k + 1) (xs.drop t) from by rw [chunk_succ, List.drop_drop]] at hS
          rw [List.length_drop] at h64
          rw [List.drop_drop] at hl2
          exact ⟨n - (k + 1), by omega, k + 1, s2, l2, ⟨rfl, rfl, rfl, rfl, congrArg (Value.int .i64) (by omega), trivial⟩, hS, (by rw [show t + 64 * (k + 1) = t + 64 * k + 64 by omega]; exact hl2), by omega, by omega, rfl⟩
      ·
        have hr1 := hc1
        try simp only [decide_eq_true_eq, decide_eq_false_iff_not, Bool.and_eq_true, Bool.or_eq_true, Bool.and_eq_false_iff, Bool.or_eq_false_iff, Bool.not_eq_true', Bool.not_eq_false', Int.not_lt, Int.not_le] at hc1
        obtain rfl : k = n := by omega
        obtain ⟨cg, more, er, hG⟩ : ∃ (c : MC) (t' : Nat) (e : Int), getF (xs.drop (t + 64 * k)) = (c, t', e) := ⟨_, _, _, rfl⟩
        have hgt := gtF_m (c := cg) (t := more) (e := er) h0 (by rw [hnn, htt]; omega) (by rw [hnn, htt]; exact hG)
        rw [hnn, htt] at hgt
        refine WC.exit ?_
        refine thenQ_e ?_
        refine thenQ_e ?_
        refine blockQ_hit ?_
        refine thenQ_n (hK7 _ _ ?_)
        refine WC.seq (fun K14 hK14 => ?_)
        refine WC.region ?_
        refine WL.op rfl (opW.fieldAddrB rfl ?_)
        refine WL.op rfl (opW.loadV rfl (hS.ld1 (by first | exact .h0 | exact .h1 | exact .h2 | exact .h3 | exact .h4 | exact .h5 | exact .h6 | exact .h7 | exact .h8 | exact .h9 | exact .h10 | exact .h11 | exact .h12 | exact .h13 | exact .h14) (Reading.at_left (⟨⟨sg, (⟨false, ⟨0, 0, 0⟩, ⟨none, 0, 0⟩, vz 32, ⟨none, 0, 0⟩, ⟨none, 0, 0⟩⟩ : Message)⟩, lv⟩ : Reading))) ?_)
        refine WL.op rfl (opW.call (get_ok2 _ lv (xs.drop (t + 64 * k)) (hlv.bel hS.old) (by rw [List.length_drop]; omega) hG) rfl ?_)
        rintro _ w ⟨m, is, ls, rfl, hgm, hSg⟩
        replace hS := hS.merge hSg
        unfold gotL at hS
        simp only [List.cons_append, List.nil_append] at hS
        refine WL.op rfl (opW.moveV (v := .tuple #[.agg (Enc.enc m), .int .i64 (more : Int), .int .i64 er]) rfl ?_)
        refine WL.op rfl (opW.extract rfl rfl ?_)
        refine WL.op rfl (opW.extract rfl rfl ?_)
        refine WL.op rfl (opW.extract rfl rfl ?_)
        refine WL.op rfl (opW.allocA hS ?_)
        intro b7 w _ hS
        refine WL.op0 (opW.storeE (r := m) hS rfl rfl (by first | exact .h0 | exact .h1 | exact .h2 | exact .h3 | exact .h4 | exact .h5 | exact .h6 | exact .h7 | exact .h8 | exact .h9 | exact .h10 | exact .h11 | exact .h12 | exact .h13 | exact .h14) (by rw [mg_zero]; exact Enc.size_eq _) ?_)
        intro w hS; replace hS := hS _ (by first | exact .h0 | exact .h1 | exact .h2 | exact .h3 | exact .h4 | exact .h5 | exact .h6 | exact .h7 | exact .h8 | exact .h9 | exact .h10 | exact .h11 | exact .h12 | exact .h13 | exact .h14)
        refine WL.op rfl (opW.assignI rfl ?_)
        refine WL.op rfl (opW.assignI rfl ?_)
        refine WL.nil ?_
        refine thenQ_n (hK14 _ _ ?_)
        refine WC.seq (fun K15 hK15 => ?_)
        refine WC.seq (fun K16 hK16 => ?_)
        refine WC.region ?_
        refine WL.op rfl (opW.moveI rfl ?_)
        refine WL.op rfl (opW.neq rfl rfl ?_)
        refine WL.nil ?_
        refine thenQ_n (hK16 _ _ ?_)
        refine WC.cond _ rfl (fun hc3 => ?_) (fun hc3 => ?_)
        ·
          have hr3 := hc3
          try simp only [decide_eq_true_eq, decide_eq_false_iff_not, Bool.and_eq_true, Bool.or_eq_true, Bool.and_eq_false_iff, Bool.or_eq_false_iff, Bool.not_eq_true', Bool.not_eq_false', Int.not_lt, Int.not_le] at hc3
          have he0 : er ≠ 0 := by simpa using hr3
          rw [if_neg he0] at hgt
          refine WC.seq (fun K17 hK17 => ?_)
          refine WC.region ?_
          refine WL.op rfl (opW.buildE (r := (⟨⟨none, 0, 0⟩, (⟨false, ⟨0, 0, 0⟩, ⟨none, 0, 0⟩, vz 32, ⟨none, 0, 0⟩, ⟨none, 0, 0⟩⟩ : Message)⟩ : Tx)) (ps := Tx.parts (⟨⟨none, 0, 0⟩, (⟨false, ⟨0, 0, 0⟩, ⟨none, 0, 0⟩, vz 32, ⟨none, 0, 0⟩, ⟨none, 0, 0⟩⟩ : Message)⟩ : Tx)) (Tx.enc_eq _) (by simp only [enc_vset, enc_vz, Header.enc_eq, Header.parts, Message.enc_eq, Message.parts, Tx.enc_eq, Tx.parts]; rfl) (by (repeat' (first | exact trivial | refine And.intro ?_ ?_)) <;> first | rfl | exact Enc.size_eq _ | (simp; done)) ?_)
          refine WL.op rfl (opW.moveI rfl ?_)
          refine WL.op0 (opW.storeE (b := b2) (r := (⟨⟨none, 0, 0⟩, (⟨false, ⟨0, 0, 0⟩, ⟨none, 0, 0⟩, vz 32, ⟨none, 0, 0⟩, ⟨none, 0, 0⟩⟩ : Message)⟩ : Tx)) hS rfl rfl (by first | exact .h0 | exact .h1 | exact .h2 | exact .h3 | exact .h4 | exact .h5 | exact .h6 | exact .h7 | exact .h8 | exact .h9 | exact .h10 | exact .h11 | exact .h12 | exact .h13 | exact .h14) (by exact Enc.size_eq _) ?_)
          intro w hS; replace hS := hS _ (by first | exact .h0 | exact .h1 | exact .h2 | exact .h3 | exact .h4 | exact .h5 | exact .h6 | exact .h7 | exact .h8 | exact .h9 | exact .h10 | exact .h11 | exact .h12 | exact .h13 | exact .h14)
          refine WL.op rfl (opW.assignI rfl ?_)
          refine WL.op rfl (opW.assignI rfl ?_)
          refine WL.nil ?_
          refine thenQ_n (hK17 _ _ ?_)
          refine WC.ret ?_
          refine thenQ_r ?_
          refine bodyQ_ret (.cell (by exact hS.ldA (by first | exact .h0 | exact .h1 | exact .h2 | exact .h3 | exact .h4 | exact .h5 | exact .h6 | exact .h7 | exact .h8 | exact .h9 | exact .h10 | exact .h11 | exact .h12 | exact .h13 | exact .h14) (by exact Enc.size_eq _)) (.tmpI rfl (.tmpI rfl .nil))) ?_
          refine ⟨(⟨⟨none, 0, 0⟩, (⟨false, ⟨0, 0, 0⟩, ⟨none, 0, 0⟩, vz 32, ⟨none, 0, 0⟩, ⟨none, 0, 0⟩⟩ : Message)⟩ : Tx), [], [], by rw [hgt]; rfl, by rw [hgt]; exact zGotM, ?_⟩
          rw [hgt]
          exact zGotTL (hS.sub (List.nil_sublist _))
        ·
          have hr3 := hc3
          try simp only [decide_eq_true_eq, decide_eq_false_iff_not, Bool.and_eq_true, Bool.or_eq_true, Bool.and_eq_false_iff, Bool.or_eq_false_iff, Bool.not_eq_true', Bool.not_eq_false', Int.not_lt, Int.not_le] at hc3
          obtain rfl : er = 0 := by simpa using hr3
          rw [if_pos rfl] at hgt
          have hmore := (getF_only hG).2.2.1
          rw [List.length_drop] at hmore
          refine WC.skip ?_
          refine thenQ_n (hK15 _ _ ?_)
          refine WC.seq (fun K18 hK18 => ?_)
          refine WC.draw 7 (.look 0 (.look 1 (.look 2 (.look 3 (.one 4 (.look 5 (.look 6 (.one 7 (.one 8 (.one 9 (.one 10 .nil))))))))))) (by kernel_rfl) (fun _ _ _ h => h) (fun w1 hw1 => ?_)
          replace hS := hS.bel hw1
          have hS1 := hS
          have hT := St.start w1
          refine ML.look rfl rfl rfl (fun w hw => (by have hS := hS1.bel hw; exact opW.loadV rfl (hS.ldA (b := b7) (cs := Enc.enc m) (by first | exact .h0 | exact .h1 | exact .h2 | exact .h3 | exact .h4 | exact .h5 | exact .h6 | exact .h7 | exact .h8 | exact .h9 | exact .h10 | exact .h11 | exact .h12 | exact .h13 | exact .h14) (by exact Enc.size_eq _)) ⟨rfl, rfl⟩)) ?_
          refine ML.look rfl rfl rfl (fun w hw => (by have hS := hS1.bel hw; exact opW.fieldAddrB rfl ⟨rfl, rfl⟩)) ?_
          refine ML.look rfl rfl rfl (fun w hw => (by have hS := hS1.bel hw; exact opW.fieldAddrB rfl ⟨rfl, rfl⟩)) ?_
          refine ML.look rfl rfl rfl (fun w hw => (by have hS := hS1.bel hw; exact opW.loadV rfl (hS.ld1 (by first | exact .h0 | exact .h1 | exact .h2 | exact .h3 | exact .h4 | exact .h5 | exact .h6 | exact .h7 | exact .h8 | exact .h9 | exact .h10 | exact .h11 | exact .h12 | exact .h13 | exact .h14) (Reading.at_tx_sigs (⟨⟨sg, (⟨false, ⟨0, 0, 0⟩, ⟨none, 0, 0⟩, vz 32, ⟨none, 0, 0⟩, ⟨none, 0, 0⟩⟩ : Message)⟩, lv⟩ : Reading))) ⟨rfl, rfl⟩)) ?_
          refine ML.one rfl rfl rfl (opW.call (clip_sig _ _ (chunk k (xs.drop t)) (hS1.sl (v := sg.v) (xs := chunk k (xs.drop t)) (by first | exact .h0 | exact .h1 | exact .h2 | exact .h3 | exact .h4 | exact .h5 | exact .h6 | exact .h7 | exact .h8 | exact .h9 | exact .h10 | exact .h11 | exact .h12 | exact .h13 | exact .h14))) rfl ?_)
          rintro v45 w ⟨hv45, hw⟩; replace hT := hT.bel hw
          obtain ⟨s45, rfl⟩ : ∃ s : SlV, v45 = s.v := (by rw [hv45]; exact cut_slv sg _ _ _ _)
          refine ⟨hT.old, ?_⟩
          have hS := hS1.merge hT
          try simp only [List.cons_append, List.nil_append] at hS
          refine ML.look rfl rfl rfl (fun w hw => (by have hS := hS1.bel hw; exact opW.fieldAddrB rfl ⟨rfl, rfl⟩)) ?_
          refine ML.look rfl rfl rfl (fun w hw => (by have hS := hS1.bel hw; exact opW.fieldAddrB rfl ⟨rfl, rfl⟩)) ?_
          refine ML.put0 rfl rfl rfl (opW.storeF (b := b6) (o := 1) (v := .agg (Enc.enc m)) (sz := 39) (cs := Enc.enc (⟨⟨sg, (⟨false, ⟨0, 0, 0⟩, ⟨none, 0, 0⟩, vz 32, ⟨none, 0, 0⟩, ⟨none, 0, 0⟩⟩ : Message)⟩, lv⟩ : Reading)) (cs' := Enc.enc (⟨⟨sg, m⟩, lv⟩ : Reading)) hS rfl rfl (by first | exact .h0 | exact .h1 | exact .h2 | exact .h3 | exact .h4 | exact .h5 | exact .h6 | exact .h7 | exact .h8 | exact .h9 | exact .h10 | exact .h11 | exact .h12 | exact .h13 | exact .h14) (Enc.size_eq m) (by rw [Enc.size_eq]; decide) (by simp only [Value.cells]; exact Enc.one m) (by simp only [Value.cells]; exact Reading.set_m1 (⟨⟨sg, (⟨false, ⟨0, 0, 0⟩, ⟨none, 0, 0⟩, vz 32, ⟨none, 0, 0⟩, ⟨none, 0, 0⟩⟩ : Message)⟩, lv⟩ : Reading) m) ?_)
          intro w hS; replace hS := hS _ (by first | exact .h0 | exact .h1 | exact .h2 | exact .h3 | exact .h4 | exact .h5 | exact .h6 | exact .h7 | exact .h8 | exact .h9 | exact .h10 | exact .h11 | exact .h12 | exact .h13 | exact .h14)
          refine ML.put1 rfl rfl rfl rfl (opW.fieldAddrB rfl ?_)
          refine ML.put1 rfl rfl rfl rfl (opW.fieldAddrB rfl ?_)
          refine ML.put0 rfl rfl rfl (opW.storeF (b := b6) (o := 0) (v := s45.v) (sz := 1) (cs := Enc.enc (⟨⟨sg, m⟩, lv⟩ : Reading)) (cs' := Enc.enc (⟨⟨s45, m⟩, lv⟩ : Reading)) hS rfl rfl (by first | exact .h0 | exact .h1 | exact .h2 | exact .h3 | exact .h4 | exact .h5 | exact .h6 | exact .h7 | exact .h8 | exact .h9 | exact .h10 | exact .h11 | exact .h12 | exact .h13 | exact .h14) rfl (by rw [Enc.size_eq]; decide) (Enc.one (α := SlV) s45) (Reading.set_s0 (⟨⟨sg, m⟩, lv⟩ : Reading) s45) ?_)
          intro w hS; replace hS := hS _ (by first | exact .h0 | exact .h1 | exact .h2 | exact .h3 | exact .h4 | exact .h5 | exact .h6 | exact .h7 | exact .h8 | exact .h9 | exact .h10 | exact .h11 | exact .h12 | exact .h13 | exact .h14)
          refine ML.nil ?_
          replace hS := hS.cutOwn (v := sg.v) (T := 62) (xs := chunk k (xs.drop t)) (by first | exact .h0 | exact .h1 | exact .h2 | exact .h3 | exact .h4 | exact .h5 | exact .h6 | exact .h7 | exact .h8 | exact .h9 | exact .h10 | exact .h11 | exact .h12 | exact .h13 | exact .h14)
          rw [← hv45] at hS
          refine thenQ_n (hK18 _ _ ?_)
          refine WC.seq (fun K19 hK19 => ?_)
          refine WC.drawI 13 (.look 0 (.look 1 (.look 2 (.look 3 (.look 4 (.look 5 (.look 6 (.look 7 (.look 8 (.look 9 (.one 10 (.look 11 (.look 12 .nil))))))))))))) (by kernel_rfl) (fun _ _ _ h => h) (fun w1 hw1 => ?_)
          replace hS := hS.bel hw1
          have hS1 := hS
          refine ⟨fun w' => Bel w0 w' ∧ Ld Try.prog 33 w' (.pointer (some ⟨b6, 0, none⟩)) (.agg (Enc.enc (⟨s45, m⟩ : Tx))) ∧ Ld Try.prog 37 w' (.pointer (some ⟨b6, 40, none⟩)) lv.v, ⟨hS.old, hS.ldF (c := Enc.enc (⟨s45, m⟩ : Tx)) (by first | exact .h0 | exact .h1 | exact .h2 | exact .h3 | exact .h4 | exact .h5 | exact .h6 | exact .h7 | exact .h8 | exact .h9 | exact .h10 | exact .h11 | exact .h12 | exact .h13 | exact .h14) (Reading.ex_tx (⟨⟨s45, m⟩, lv⟩ : Reading)) (by rw [Enc.size_eq]; decide), hS.ld1 (by first | exact .h0 | exact .h1 | exact .h2 | exact .h3 | exact .h4 | exact .h5 | exact .h6 | exact .h7 | exact .h8 | exact .h9 | exact .h10 | exact .h11 | exact .h12 | exact .h13 | exact .h14) (Reading.at_left (⟨⟨s45, m⟩, lv⟩ : Reading))⟩, ?_⟩
          refine ML.look rfl rfl rfl (fun w hw => (by skip; exact opW.fieldAddrB rfl ⟨rfl, rfl⟩)) ?_
          refine ML.look rfl rfl rfl (fun w hw => (by skip; exact opW.loadV rfl (hw.2.1) ⟨rfl, rfl⟩)) ?_
          refine ML.look rfl rfl rfl (fun w hw => (by skip; exact opW.moveV (v := sb.v) rfl ⟨rfl, rfl⟩)) ?_
          refine ML.look rfl rfl rfl (fun w hw => (by skip; exact opW.lenV rfl ((hb.bel hw.1)) ⟨rfl, rfl⟩)) ?_
          refine ML.look rfl rfl rfl (fun w hw => (by skip; exact opW.fieldAddrB rfl ⟨rfl, rfl⟩)) ?_
          refine ML.look rfl rfl rfl (fun w hw => (by skip; exact opW.loadV rfl (hw.2.2) ⟨rfl, rfl⟩)) ?_
          refine ML.look rfl rfl rfl (fun w hw => (by skip; exact opW.lenV rfl ((hlv.bel hw.1)) ⟨rfl, rfl⟩)) ?_
          refine ML.look rfl rfl rfl (fun w hw => (by skip; exact opW.sub rfl rfl (wrap_i64 (by rw [List.length_drop]; omega)) ⟨rfl, rfl⟩)) ?_
          refine ML.look rfl rfl rfl (fun w hw => (by skip; exact opW.moveI rfl ⟨rfl, rfl⟩)) ?_
          refine ML.look rfl rfl rfl (fun w hw => (by skip; exact opW.add rfl rfl ((show IntKind.i64.wrap _ = (((t + 64 * k + more : Nat)) : Int) from by rw [IntKind.wrap_i64, List.length_drop]; omega)) ⟨rfl, rfl⟩)) ?_
          refine ML.one0 rfl rfl (opW.storeE (b := b2) (r := (⟨s45, m⟩ : Tx)) hS rfl rfl (by first | exact .h0 | exact .h1 | exact .h2 | exact .h3 | exact .h4 | exact .h5 | exact .h6 | exact .h7 | exact .h8 | exact .h9 | exact .h10 | exact .h11 | exact .h12 | exact .h13 | exact .h14) (by exact Enc.size_eq _) ?_)
          intro w hS; replace hS := hS _ (by first | exact .h0 | exact .h1 | exact .h2 | exact .h3 | exact .h4 | exact .h5 | exact .h6 | exact .h7 | exact .h8 | exact .h9 | exact .h10 | exact .h11 | exact .h12 | exact .h13 | exact .h14)
          refine ⟨⟨hS.old, hS.ldF (c := Enc.enc (⟨s45, m⟩ : Tx)) (by first | exact .h0 | exact .h1 | exact .h2 | exact .h3 | exact .h4 | exact .h5 | exact .h6 | exact .h7 | exact .h8 | exact .h9 | exact .h10 | exact .h11 | exact .h12 | exact .h13 | exact .h14) (Reading.ex_tx (⟨⟨s45, m⟩, lv⟩ : Reading)) (by rw [Enc.size_eq]; decide), hS.ld1 (by first | exact .h0 | exact .h1 | exact .h2 | exact .h3 | exact .h4 | exact .h5 | exact .h6 | exact .h7 | exact .h8 | exact .h9 | exact .h10 | exact .h11 | exact .h12 | exact .h13 | exact .h14) (Reading.at_left (⟨⟨s45, m⟩, lv⟩ : Reading))⟩, ?_⟩
          refine ML.look rfl rfl rfl (fun w hw => (by skip; exact opW.assignI rfl ⟨rfl, rfl⟩)) ?_
          refine ML.look rfl rfl rfl (fun w hw => (by skip; exact opW.assignI rfl ⟨rfl, rfl⟩)) ?_
          refine ML.nil ?_
          refine thenQ_n (hK19 _ _ ?_)
          refine WC.ret ?_
          refine bodyQ_ret (.cell (by exact hS.ldA (by first | exact .h0 | exact .h1 | exact .h2 | exact .h3 | exact .h4 | exact .h5 | exact .h6 | exact .h7 | exact .h8 | exact .h9 | exact .h10 | exact .h11 | exact .h12 | exact .h13 | exact .h14) (by exact Enc.size_eq _)) (.tmpI rfl (.tmpI rfl .nil))) ?_
          refine ⟨(⟨s45, m⟩ : Tx), is, ls, by rw [hgt]; rfl, by rw [hgt]; exact hgm, ?_⟩
          rw [hgt]
          show St w0 (ownE s45.v 62 (chunk k (xs.drop t)) :: [ownE m.keys.v 58 cg.keys, ownE m.instrs.v 90 is, b2E (zipI is cg.ins), ownE m.lookups.v 92 ls, b2E (zipL ls cg.lks)]) w
          exact (hS.pick (e := ownE s45.v 62 (chunk k (xs.drop t))) (by first | exact .h0 | exact .h1 | exact .h2 | exact .h3 | exact .h4 | exact .h5 | exact .h6 | exact .h7 | exact .h8 | exact .h9 | exact .h10 | exact .h11 | exact .h12 | exact .h13 | exact .h14)).sub (by repeat (first | with_reducible exact List.nil_sublist _ | with_reducible exact List.Sublist.refl _ | with_reducible refine List.Sublist.cons₂ _ ?_ | with_reducible refine List.Sublist.cons _ ?_))

end Go.Fer
