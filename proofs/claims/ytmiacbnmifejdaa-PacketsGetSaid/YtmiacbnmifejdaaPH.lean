/- the document: Get, Whole -/
import Derived.Test.YtmiacbnmifejdaaPE
import Derived.Test.YtmiacbnmifejdaaL
import Derived.Test.YtmiacbnmifejdaaM
import Derived.Test.YtmiacbnmifejdaaPG
set_option linter.all false
namespace Go.Fer
open Go Go.Proofs Go.RowKit

theorem rget_ok2 (w0 : World) (sx : SlV) (xs : List UInt8) {c : MC} {t : Nat} {e : Int} (hx : SlR w0 sx.v xs) (hxl : xs.length ≤ 1000000000) (hG : getF xs = (c, t, e)) :
    Ret Try.prog 47 #[sx.v] w0 (fun u w' => ∃ (m : Message) (is : List Instr) (ls : List Lookup), u = .tuple #[.agg (Enc.enc m), .int .i64 (t : Int), .int .i64 e] ∧ GotM m is ls c ∧ St w0 (gotL m is ls c) w') := by
  refine Ret.mono (rget_ok w0 sx xs hx hxl) ?_
  rintro u w' ⟨m, is, ls, h1, h2, h3⟩
  rw [hG] at h1 h2 h3
  exact ⟨m, is, ls, h1, h2, h3⟩
theorem leftBytes2 (w0 : World) (fv u0 u : Value) (xs : List UInt8) (h0 : u0 = cutV fv 0 xs.length (xs.length + 3) (Enc.sz UInt8)) (hcf : capV fv = xs.length + 3) (hf : SlR w0 fv (xs ++ [165, 165, 165])) (hu : SlR w0 u xs) : Ret Try.prog 24 #[u0, u] w0 (fun r w' => r = .bool true ∧ Bel w0 w') := by
  subst h0; exact leftBytes_ok w0 fv u xs hcf hf hu

set_option maxRecDepth 20000 in
set_option maxHeartbeats 1000000 in
theorem rgget_ok (w0 : World) (sb : SlV) (xs : List UInt8) (hb : SlR w0 sb.v xs) (hxl : xs.length ≤ 1000000000) : Ret Try.prog 20 #[sb.v] w0 (gotTR w0 xs) := by
  refine Ret.enter (args := [sb.v]) Try.func20 rfl Try.ntmps20 Try.results20 rfl ?_
  have hS := St.start w0
  refine WC.seq (fun K1 hK1 => ?_)
  refine WC.region ?_
  refine WL.op rfl (opW.allocA hS ?_)
  intro b2 w _ hS
  refine WL.op rfl (opW.assignI rfl ?_)
  refine WL.op rfl (opW.assignI rfl ?_)
  rw [tx_zero] at hS
  refine WL.nil ?_
  refine thenQ_n (hK1 _ _ ?_)
  refine WC.seq (fun K2 hK2 => ?_)
  refine WC.region ?_
  refine WL.op rfl (opW.moveV (v := sb.v) rfl ?_)
  refine WL.op rfl (opW.call (ref_get_short _ _ xs (hb.bel hS.old)) rfl ?_)
  rintro _ w ⟨rfl, hw⟩; replace hS := hS.bel hw
  refine WL.op rfl (opW.moveV (v := .tuple #[.int .i64 (gs xs 0 0).1, .int .i64 (gs xs 0 0).2.1, .int .i64 (gs xs 0 0).2.2]) rfl ?_)
  refine WL.op rfl (opW.extract rfl rfl ?_)
  refine WL.op rfl (opW.extract rfl rfl ?_)
  refine WL.op rfl (opW.extract rfl rfl ?_)
  refine WL.op rfl (opW.assignI rfl ?_)
  refine WL.op rfl (opW.assignI rfl ?_)
  refine WL.op rfl (opW.assignI rfl ?_)
  refine WL.nil ?_
  refine thenQ_n (hK2 _ _ ?_)
  refine WC.seq (fun K3 hK3 => ?_)
  refine WC.seq (fun K4 hK4 => ?_)
  refine WC.region ?_
  refine WL.op rfl (opW.moveI rfl ?_)
  refine WL.op rfl (opW.neq rfl rfl ?_)
  refine WL.nil ?_
  refine thenQ_n (hK4 _ _ ?_)
  refine WC.cond _ rfl (fun hc0 => ?_) (fun hc0 => ?_)
  ·
    have hr0 := hc0
    try simp only [decide_eq_true_eq, decide_eq_false_iff_not, Bool.and_eq_true, Bool.or_eq_true, Bool.and_eq_false_iff, Bool.or_eq_false_iff, Bool.not_eq_true', Bool.not_eq_false', Int.not_lt, Int.not_le] at hc0
    have h0 : (gs xs 0 0).2.2 ≠ 0 := by simpa using hr0
    refine WC.seq (fun K5 hK5 => ?_)
    refine WC.region ?_
    refine WL.op rfl (opW.buildE (r := (⟨⟨none, 0, 0⟩, (⟨false, ⟨0, 0, 0⟩, ⟨none, 0, 0⟩, vz 32, ⟨none, 0, 0⟩, ⟨none, 0, 0⟩⟩ : Message)⟩ : Tx)) (ps := Tx.parts (⟨⟨none, 0, 0⟩, (⟨false, ⟨0, 0, 0⟩, ⟨none, 0, 0⟩, vz 32, ⟨none, 0, 0⟩, ⟨none, 0, 0⟩⟩ : Message)⟩ : Tx)) (Tx.enc_eq _) (by simp only [enc_vset, enc_vz, Header.enc_eq, Header.parts, Message.enc_eq, Message.parts, Tx.enc_eq, Tx.parts]; rfl) (by (repeat' (first | exact trivial | refine And.intro ?_ ?_)) <;> first | rfl | exact Enc.size_eq _ | (simp; done)) ?_)
    refine WL.op rfl (opW.moveI rfl ?_)
    refine WL.op0 (opW.storeE (b := b2) (r := (⟨⟨none, 0, 0⟩, (⟨false, ⟨0, 0, 0⟩, ⟨none, 0, 0⟩, vz 32, ⟨none, 0, 0⟩, ⟨none, 0, 0⟩⟩ : Message)⟩ : Tx)) hS rfl rfl (by first | exact .h0 | exact .h1 | exact .h2 | exact .h3 | exact .h4 | exact .h5 | exact .h6 | exact .h7 | exact .h8 | exact .h9 | exact .h10 | exact .h11 | exact .h12 | exact .h13 | exact .h14) (by exact Enc.size_eq _) ?_)
    intro w hS; replace hS := hS _ (by first | exact .h0 | exact .h1 | exact .h2 | exact .h3 | exact .h4 | exact .h5 | exact .h6 | exact .h7 | exact .h8 | exact .h9 | exact .h10 | exact .h11 | exact .h12 | exact .h13 | exact .h14)
    refine WL.op rfl (opW.assignI rfl ?_)
    refine WL.op rfl (opW.assignI rfl ?_)
    refine WL.nil ?_
    refine thenQ_n (hK5 _ _ ?_)
    refine WC.ret ?_
    refine thenQ_r ?_
    refine bodyQ_ret (.cell (by exact hS.ldA (by first | exact .h0 | exact .h1 | exact .h2 | exact .h3 | exact .h4 | exact .h5 | exact .h6 | exact .h7 | exact .h8 | exact .h9 | exact .h10 | exact .h11 | exact .h12 | exact .h13 | exact .h14) (by exact Enc.size_eq _)) (.tmpI rfl (.tmpI rfl .nil))) ?_
    refine ⟨(⟨⟨none, 0, 0⟩, (⟨false, ⟨0, 0, 0⟩, ⟨none, 0, 0⟩, vz 32, ⟨none, 0, 0⟩, ⟨none, 0, 0⟩⟩ : Message)⟩ : Tx), [], [], by rw [gtF_e h0]; rfl, by rw [gtF_e h0]; exact zGotM, ?_⟩
    rw [gtF_e h0]
    exact zGotTL (hS.sub (List.nil_sublist _))
  ·
    have hr0 := hc0
    try simp only [decide_eq_true_eq, decide_eq_false_iff_not, Bool.and_eq_true, Bool.or_eq_true, Bool.and_eq_false_iff, Bool.or_eq_false_iff, Bool.not_eq_true', Bool.not_eq_false', Int.not_lt, Int.not_le] at hc0
    have h0 : (gs xs 0 0).2.2 = 0 := by simpa using hr0
    have hgb := gs_bound xs 0 0 (by omega) (by omega)
    obtain ⟨n, hn⟩ : ∃ n : Nat, (gs xs 0 0).1 = (n : Int) := ⟨(gs xs 0 0).1.toNat, by omega⟩
    obtain ⟨t, ht⟩ : ∃ t : Nat, (gs xs 0 0).2.1 = (t : Int) := ⟨(gs xs 0 0).2.1.toNat, by omega⟩
    have hnn : (gs xs 0 0).1.toNat = n := by omega
    have htt : (gs xs 0 0).2.1.toNat = t := by omega
    have htl : t ≤ xs.length := by have := hgb.2.2.2 h0; omega
    have hn6 : n < 65536 := by omega
    rw [hn, ht]
    refine WC.skip ?_
    refine thenQ_n (hK3 _ _ ?_)
    refine WC.seq (fun K6 hK6 => ?_)
    refine WC.region ?_
    refine WL.op rfl (opW.buildE (r := (⟨⟨none, 0, 0⟩, (⟨false, ⟨0, 0, 0⟩, ⟨none, 0, 0⟩, vz 32, ⟨none, 0, 0⟩, ⟨none, 0, 0⟩⟩ : Message)⟩ : Tx)) (ps := Tx.parts (⟨⟨none, 0, 0⟩, (⟨false, ⟨0, 0, 0⟩, ⟨none, 0, 0⟩, vz 32, ⟨none, 0, 0⟩, ⟨none, 0, 0⟩⟩ : Message)⟩ : Tx)) (Tx.enc_eq _) (by simp only [enc_vset, enc_vz, Header.enc_eq, Header.parts, Message.enc_eq, Message.parts, Tx.enc_eq, Tx.parts]; rfl) (by (repeat' (first | exact trivial | refine And.intro ?_ ?_)) <;> first | rfl | exact Enc.size_eq _ | (simp; done)) ?_)
    refine WL.op rfl (opW.allocA hS ?_)
    intro b8 w _ hS
    refine WL.op0 (opW.storeE (b := b8) (r := (⟨⟨none, 0, 0⟩, (⟨false, ⟨0, 0, 0⟩, ⟨none, 0, 0⟩, vz 32, ⟨none, 0, 0⟩, ⟨none, 0, 0⟩⟩ : Message)⟩ : Tx)) hS rfl rfl (by first | exact .h0 | exact .h1 | exact .h2 | exact .h3 | exact .h4 | exact .h5 | exact .h6 | exact .h7 | exact .h8 | exact .h9 | exact .h10 | exact .h11 | exact .h12 | exact .h13 | exact .h14) (by rw [tx_zero]; exact Enc.size_eq _) ?_)
    intro w hS; replace hS := hS _ (by first | exact .h0 | exact .h1 | exact .h2 | exact .h3 | exact .h4 | exact .h5 | exact .h6 | exact .h7 | exact .h8 | exact .h9 | exact .h10 | exact .h11 | exact .h12 | exact .h13 | exact .h14)
    refine WL.nil ?_
    refine thenQ_n (hK6 _ _ ?_)
    refine WC.seq (fun K7 hK7 => ?_)
    refine WC.seq (fun K8 hK8 => ?_)
    refine WC.region ?_
    refine WL.op rfl (opW.assignI rfl ?_)
    refine WL.nil ?_
    refine thenQ_n (hK8 _ _ ?_)
    refine WC.block ?_
    refine WC.loop (fun q f w => ∃ (k : Nat) (sg : SlV), Fits [(0, sb.v), (2, .pointer (some ⟨b2, 0, none⟩)), (5, .int .i64 (n : Int)), (6, .int .i64 (((t + 64 * k) : Nat) : Int)), (8, .pointer (some ⟨b8, 0, none⟩)), (9, .int .i64 (k : Int))] f ∧ St w0 [blkE b8 (Enc.enc (⟨sg, (⟨false, ⟨0, 0, 0⟩, ⟨none, 0, 0⟩, vz 32, ⟨none, 0, 0⟩, ⟨none, 0, 0⟩⟩ : Message)⟩ : Tx)) 33, ownE sg.v 62 (chunk k (xs.drop t)), blkE b2 (Enc.enc (⟨⟨none, 0, 0⟩, (⟨false, ⟨0, 0, 0⟩, ⟨none, 0, 0⟩, vz 32, ⟨none, 0, 0⟩, ⟨none, 0, 0⟩⟩ : Message)⟩ : Tx)) 33] w ∧ (t + 64 * k) ≤ xs.length ∧ k ≤ n ∧ q = n - k) (n) ?_ ?_
    ·
      exact ⟨0, ⟨none, 0, 0⟩, ⟨rfl, rfl, rfl, rfl, rfl, rfl, trivial⟩, ((hS.nilOwn (α := Vector UInt8 64) 62).pick (e := blkE b8 (Enc.enc (⟨⟨none, 0, 0⟩, (⟨false, ⟨0, 0, 0⟩, ⟨none, 0, 0⟩, vz 32, ⟨none, 0, 0⟩, ⟨none, 0, 0⟩⟩ : Message)⟩ : Tx)) 33) (by first | exact .h0 | exact .h1 | exact .h2 | exact .h3 | exact .h4 | exact .h5 | exact .h6 | exact .h7 | exact .h8 | exact .h9 | exact .h10 | exact .h11 | exact .h12 | exact .h13 | exact .h14)), by omega, Nat.zero_le _, rfl⟩
    ·
      rintro q f w ⟨k, sg, hfit, hS, hkl, hkn, hm⟩
      refine WC.fits _ hfit (fun g => ?_)
      clear hfit
      refine WC.seq (fun K9 hK9 => ?_)
      refine WC.seq (fun K10 hK10 => ?_)
      refine WC.region ?_
      refine WL.op rfl (opW.moveI rfl ?_)
      refine WL.op rfl (opW.moveI rfl ?_)
      refine WL.op rfl (opW.lss rfl rfl ?_)
      refine WL.nil ?_
      refine thenQ_n (hK10 _ _ ?_)
      refine WC.cond _ rfl (fun hc1 => ?_) (fun hc1 => ?_)
      ·
        have hr1 := hc1
        try simp only [decide_eq_true_eq, decide_eq_false_iff_not, Bool.and_eq_true, Bool.or_eq_true, Bool.and_eq_false_iff, Bool.or_eq_false_iff, Bool.not_eq_true', Bool.not_eq_false', Int.not_lt, Int.not_le] at hc1
        refine WC.skip ?_
        refine thenQ_n (hK9 _ _ ?_)
        refine WC.seq (fun K11 hK11 => ?_)
        refine WC.block ?_
        refine WC.seq (fun K12 hK12 => ?_)
        refine WC.seq (fun K13 hK13 => ?_)
        refine WC.region ?_
        refine WL.op rfl (opW.moveV (v := sb.v) rfl ?_)
        refine WL.op rfl (opW.lenV rfl ((hb.bel hS.old)) ?_)
        refine WL.op rfl (opW.moveI rfl ?_)
        refine WL.op rfl (opW.sub rfl rfl (wrap_i64 (by omega)) ?_)
        refine WL.op rfl (opW.lss rfl rfl ?_)
        refine WL.nil ?_
        refine thenQ_n (hK13 _ _ ?_)
        refine WC.cond _ rfl (fun hc2 => ?_) (fun hc2 => ?_)
        ·
          have hr2 := hc2
          try simp only [decide_eq_true_eq, decide_eq_false_iff_not, Bool.and_eq_true, Bool.or_eq_true, Bool.and_eq_false_iff, Bool.or_eq_false_iff, Bool.not_eq_true', Bool.not_eq_false', Int.not_lt, Int.not_le] at hc2
          have hgs := gtF_short h0 (by rw [hnn, htt]; omega)
          refine WC.seq (fun K14 hK14 => ?_)
          refine WC.region ?_
          refine WL.op rfl (opW.buildE (r := (⟨⟨none, 0, 0⟩, (⟨false, ⟨0, 0, 0⟩, ⟨none, 0, 0⟩, vz 32, ⟨none, 0, 0⟩, ⟨none, 0, 0⟩⟩ : Message)⟩ : Tx)) (ps := Tx.parts (⟨⟨none, 0, 0⟩, (⟨false, ⟨0, 0, 0⟩, ⟨none, 0, 0⟩, vz 32, ⟨none, 0, 0⟩, ⟨none, 0, 0⟩⟩ : Message)⟩ : Tx)) (Tx.enc_eq _) (by simp only [enc_vset, enc_vz, Header.enc_eq, Header.parts, Message.enc_eq, Message.parts, Tx.enc_eq, Tx.parts]; rfl) (by (repeat' (first | exact trivial | refine And.intro ?_ ?_)) <;> first | rfl | exact Enc.size_eq _ | (simp; done)) ?_)
          refine WL.op0 (opW.storeE (b := b2) (r := (⟨⟨none, 0, 0⟩, (⟨false, ⟨0, 0, 0⟩, ⟨none, 0, 0⟩, vz 32, ⟨none, 0, 0⟩, ⟨none, 0, 0⟩⟩ : Message)⟩ : Tx)) hS rfl rfl (by first | exact .h0 | exact .h1 | exact .h2 | exact .h3 | exact .h4 | exact .h5 | exact .h6 | exact .h7 | exact .h8 | exact .h9 | exact .h10 | exact .h11 | exact .h12 | exact .h13 | exact .h14) (by exact Enc.size_eq _) ?_)
          intro w hS; replace hS := hS _ (by first | exact .h0 | exact .h1 | exact .h2 | exact .h3 | exact .h4 | exact .h5 | exact .h6 | exact .h7 | exact .h8 | exact .h9 | exact .h10 | exact .h11 | exact .h12 | exact .h13 | exact .h14)
          refine WL.op rfl (opW.assignI rfl ?_)
          refine WL.op rfl (opW.assignI rfl ?_)
          refine WL.nil ?_
          refine thenQ_n (hK14 _ _ ?_)
          refine WC.ret ?_
          refine thenQ_r ?_
          refine blockQ_r ?_
          refine thenQ_r ?_
          refine thenQ_r ?_
          refine blockQ_r ?_
          refine thenQ_r ?_
          refine bodyQ_ret (.cell (by exact hS.ldA (by first | exact .h0 | exact .h1 | exact .h2 | exact .h3 | exact .h4 | exact .h5 | exact .h6 | exact .h7 | exact .h8 | exact .h9 | exact .h10 | exact .h11 | exact .h12 | exact .h13 | exact .h14) (by exact Enc.size_eq _)) (.tmpI rfl (.tmpI rfl .nil))) ?_
          refine ⟨(⟨⟨none, 0, 0⟩, (⟨false, ⟨0, 0, 0⟩, ⟨none, 0, 0⟩, vz 32, ⟨none, 0, 0⟩, ⟨none, 0, 0⟩⟩ : Message)⟩ : Tx), [], [], by rw [hgs]; rfl, by rw [hgs]; exact zGotM, ?_⟩
          rw [hgs]
          exact zGotTL (hS.sub (List.nil_sublist _))
        ·
          have hr2 := hc2
          try simp only [decide_eq_true_eq, decide_eq_false_iff_not, Bool.and_eq_true, Bool.or_eq_true, Bool.and_eq_false_iff, Bool.or_eq_false_iff, Bool.not_eq_true', Bool.not_eq_false', Int.not_lt, Int.not_le] at hc2
          have hyl : ((xs.drop (t + 64 * k)).take 64).length = 64 := by rw [List.length_take, List.length_drop]; omega
          refine WC.skip ?_
          refine thenQ_n (hK12 _ _ ?_)
          refine WC.seq (fun K15 hK15 => ?_)
          refine WC.region ?_
          refine WL.op rfl (opW.allocA hS ?_)
          intro b10 w _ hS
          rw [← enc_vz] at hS
          refine WL.nil ?_
          refine thenQ_n (hK15 _ _ ?_)
          refine WC.seq (fun K16 hK16 => ?_)
          refine WC.draw 6 (.look 0 (.look 1 (.look 2 (.look 3 (.look 4 (.look 5 (.one 6 .nil))))))) (by kernel_rfl) (fun _ _ _ h => h) (fun w1 hw1 => ?_)
          replace hS := hS.bel hw1
          have hS1 := hS
          have hT := St.start w1
          refine ML.look rfl rfl rfl (fun w hw => (by have hS := hS1.bel hw; exact opW.cutArrO rfl ⟨rfl, rfl⟩)) ?_
          refine ML.look rfl rfl rfl (fun w hw => (by have hS := hS1.bel hw; exact opW.moveV (v := sb.v) rfl ⟨rfl, rfl⟩)) ?_
          refine ML.look rfl rfl rfl (fun w hw => (by have hS := hS1.bel hw; exact opW.moveI rfl ⟨rfl, rfl⟩)) ?_
          refine ML.look rfl rfl rfl (fun w hw => (by have hS := hS1.bel hw; exact opW.moveI rfl ⟨rfl, rfl⟩)) ?_
          refine ML.look rfl rfl rfl (fun w hw => (by have hS := hS1.bel hw; exact opW.add rfl rfl ((show IntKind.i64.wrap _ = ((t + 64 * k + 64 : Nat) : Int) from by rw [IntKind.wrap_i64]; omega)) ⟨rfl, rfl⟩)) ?_
          refine ML.look rfl rfl rfl (fun w hw => (by have hS := hS1.bel hw; exact opW.cutS (hb.bel hS.old) (xs := xs) (l := (t + 64 * k)) (h' := (t + 64 * k) + 64) (m := capV sb.v) ⟨rfl, Nat.le_refl _⟩ ⟨⟨_, rfl⟩, by have := (hb.bel hS.old).cap; omega⟩ ⟨⟨_, rfl⟩, by omega⟩ ⟨rfl, rfl⟩)) ?_
          refine ML.put1 rfl rfl rfl rfl (opW.copyBlk (b := b10) (o := 0) (n := 64) (cs := Enc.enc (vz 64)) (cs' := Enc.enc (vecOf 64 ((xs.drop (t + 64 * k)).take 64))) (ys := ((xs.drop (t + 64 * k)).take 64)) hS rfl (by first | exact .h0 | exact .h1 | exact .h2 | exact .h3 | exact .h4 | exact .h5 | exact .h6 | exact .h7 | exact .h8 | exact .h9 | exact .h10 | exact .h11 | exact .h12 | exact .h13 | exact .h14) (by have h1 := (hb.bel hS.old).cut (l := (t + 64 * k)) (h := (t + 64 * k) + 64) (m := capV sb.v) (by omega) (by omega) (by have := (hb.bel hS.old).cap; omega) (Nat.le_refl _); rw [List.drop_take, Nat.add_sub_cancel_left] at h1; exact h1) hyl (by omega) (by rw [Enc.size_eq]; decide) (by rw [flat_key (n := 63) hyl]; exact spl_all (by rw [Enc.size_eq, Enc.size_eq])) ?_)
          intro w hS; replace hS := hS _ (by first | exact .h0 | exact .h1 | exact .h2 | exact .h3 | exact .h4 | exact .h5 | exact .h6 | exact .h7 | exact .h8 | exact .h9 | exact .h10 | exact .h11 | exact .h12 | exact .h13 | exact .h14)
          refine ML.nil ?_
          refine thenQ_n (hK16 _ _ ?_)
          refine WC.seq (fun K17 hK17 => ?_)
          refine WC.region ?_
          refine WL.op rfl (opW.fieldAddrB rfl ?_)
          refine WL.op rfl (opW.loadV rfl (hS.ld1 (by first | exact .h0 | exact .h1 | exact .h2 | exact .h3 | exact .h4 | exact .h5 | exact .h6 | exact .h7 | exact .h8 | exact .h9 | exact .h10 | exact .h11 | exact .h12 | exact .h13 | exact .h14) (Tx.at_sigs (⟨sg, (⟨false, ⟨0, 0, 0⟩, ⟨none, 0, 0⟩, vz 32, ⟨none, 0, 0⟩, ⟨none, 0, 0⟩⟩ : Message)⟩ : Tx))) ?_)
          refine WL.op rfl (opW.loadV rfl (hS.ldA (b := b10) (cs := Enc.enc (vecOf 64 ((xs.drop (t + 64 * k)).take 64))) (by first | exact .h0 | exact .h1 | exact .h2 | exact .h3 | exact .h4 | exact .h5 | exact .h6 | exact .h7 | exact .h8 | exact .h9 | exact .h10 | exact .h11 | exact .h12 | exact .h13 | exact .h14) (Enc.size_eq _)) ?_)
          refine WL.op rfl (opW.buildSl hS (([(vecOf 64 ((xs.drop (t + 64 * k)).take 64))] : List (Vector UInt8 64))) [.agg (Enc.enc (vecOf 64 ((xs.drop (t + 64 * k)).take 64)))] rfl rfl rfl rfl (by decide) ?_)
          intro b45 w hw hS
          refine WL.op rfl (opW.appendOwn (α := Vector UInt8 64) (v := sg.v) (xs := chunk k (xs.drop t)) rfl hS rfl (by first | exact .h0 | exact .h1 | exact .h2 | exact .h3 | exact .h4 | exact .h5 | exact .h6 | exact .h7 | exact .h8 | exact .h9 | exact .h10 | exact .h11 | exact .h12 | exact .h13 | exact .h14) (hS.sl (v := .slice (some ⟨b45, 0, none⟩) 1 1) (xs := [(vecOf 64 ((xs.drop (t + 64 * k)).take 64))]) (by first | exact .h0 | exact .h1 | exact .h2 | exact .h3 | exact .h4 | exact .h5 | exact .h6 | exact .h7 | exact .h8 | exact .h9 | exact .h10 | exact .h11 | exact .h12 | exact .h13 | exact .h14)) (by rw [chunk_len]; simp only [List.length_cons, List.length_nil]; omega) (by rw [chunk_len]; simp only [List.length_cons, List.length_nil, maxLen]; omega) ?_)
          intro v46 w hS; replace hS := hS _ (by first | exact .h0 | exact .h1 | exact .h2 | exact .h3 | exact .h4 | exact .h5 | exact .h6 | exact .h7 | exact .h8 | exact .h9 | exact .h10 | exact .h11 | exact .h12 | exact .h13 | exact .h14)
          obtain ⟨s46, rfl⟩ := (hS.sl (v := v46) (xs := chunk k (xs.drop t) ++ [(vecOf 64 ((xs.drop (t + 64 * k)).take 64))]) (by first | exact .h0 | exact .h1 | exact .h2 | exact .h3 | exact .h4 | exact .h5 | exact .h6 | exact .h7 | exact .h8 | exact .h9 | exact .h10 | exact .h11 | exact .h12 | exact .h13 | exact .h14)).asV
          refine WL.op rfl (opW.fieldAddrB rfl ?_)
          refine WL.op0 (opW.storeF (b := b8) (o := 0) (v := s46.v) (sz := 1) (cs := Enc.enc (⟨sg, (⟨false, ⟨0, 0, 0⟩, ⟨none, 0, 0⟩, vz 32, ⟨none, 0, 0⟩, ⟨none, 0, 0⟩⟩ : Message)⟩ : Tx)) (cs' := Enc.enc (⟨s46, (⟨false, ⟨0, 0, 0⟩, ⟨none, 0, 0⟩, vz 32, ⟨none, 0, 0⟩, ⟨none, 0, 0⟩⟩ : Message)⟩ : Tx)) hS rfl rfl (by first | exact .h0 | exact .h1 | exact .h2 | exact .h3 | exact .h4 | exact .h5 | exact .h6 | exact .h7 | exact .h8 | exact .h9 | exact .h10 | exact .h11 | exact .h12 | exact .h13 | exact .h14) rfl (by rw [Enc.size_eq]; decide) (Enc.one (α := SlV) s46) (Tx.set_sigs (⟨sg, (⟨false, ⟨0, 0, 0⟩, ⟨none, 0, 0⟩, vz 32, ⟨none, 0, 0⟩, ⟨none, 0, 0⟩⟩ : Message)⟩ : Tx) s46) ?_)
          intro w hS; replace hS := hS _ (by first | exact .h0 | exact .h1 | exact .h2 | exact .h3 | exact .h4 | exact .h5 | exact .h6 | exact .h7 | exact .h8 | exact .h9 | exact .h10 | exact .h11 | exact .h12 | exact .h13 | exact .h14)
          refine WL.nil ?_
          refine thenQ_n (hK17 _ _ ?_)
          refine WC.region ?_
          refine WL.op rfl (opW.moveI rfl ?_)
          refine WL.op rfl (opW.add rfl rfl ((show IntKind.i64.wrap _ = ((t + 64 * k + 64 : Nat) : Int) from by rw [IntKind.wrap_i64]; omega)) ?_)
          refine WL.op rfl (opW.assignI rfl ?_)
          refine WL.nil ?_
          refine blockQ_n ?_
          refine thenQ_n (hK11 _ _ ?_)
          refine WC.region ?_
          refine WL.op rfl (opW.moveI rfl ?_)
          refine WL.op rfl (opW.add rfl rfl (wrap_i64 (by omega)) ?_)
          refine WL.op rfl (opW.assignI rfl ?_)
          refine WL.nil ?_
          refine thenQ_n ?_
          rw [show chunk k (xs.drop t) ++ [(vecOf 64 ((xs.drop (t + 64 * k)).take 64))] = chunk (k + 1) (xs.drop t) from by rw [chunk_succ, List.drop_drop]] at hS
          exact ⟨n - (k + 1), by omega, k + 1, s46, ⟨rfl, rfl, rfl, congrArg (fun i : Nat => Value.int .i64 (i : Int)) (by omega), rfl, congrArg (Value.int .i64) (by omega), trivial⟩, ((hS.pick (e := ownE s46.v 62 (chunk (k + 1) (xs.drop t))) (by first | exact .h0 | exact .h1 | exact .h2 | exact .h3 | exact .h4 | exact .h5 | exact .h6 | exact .h7 | exact .h8 | exact .h9 | exact .h10 | exact .h11 | exact .h12 | exact .h13 | exact .h14)).pick (e := blkE b8 (Enc.enc (⟨s46, (⟨false, ⟨0, 0, 0⟩, ⟨none, 0, 0⟩, vz 32, ⟨none, 0, 0⟩, ⟨none, 0, 0⟩⟩ : Message)⟩ : Tx)) 33) (by first | exact .h0 | exact .h1 | exact .h2 | exact .h3 | exact .h4 | exact .h5 | exact .h6 | exact .h7 | exact .h8 | exact .h9 | exact .h10 | exact .h11 | exact .h12 | exact .h13 | exact .h14)).sub (by repeat (first | with_reducible exact List.nil_sublist _ | with_reducible exact List.Sublist.refl _ | with_reducible refine List.Sublist.cons₂ _ ?_ | with_reducible refine List.Sublist.cons _ ?_)), by omega, by omega, rfl⟩
      ·
        have hr1 := hc1
        try simp only [decide_eq_true_eq, decide_eq_false_iff_not, Bool.and_eq_true, Bool.or_eq_true, Bool.and_eq_false_iff, Bool.or_eq_false_iff, Bool.not_eq_true', Bool.not_eq_false', Int.not_lt, Int.not_le] at hc1
        obtain rfl : k = n := by omega
        obtain ⟨cg, more, er, hG⟩ : ∃ (c : MC) (t' : Nat) (e : Int), getF (xs.drop (t + 64 * k)) = (c, t', e) := ⟨_, _, _, rfl⟩
        have hgt := gtF_m (c := cg) (t := more) (e := er) h0 (by rw [hnn, htt]; omega) (by rw [hnn, htt]; exact hG)
        rw [hnn, htt] at hgt
        refine WC.exit ?_
        refine thenQ_e ?_
        refine thenQ_e ?_
        refine blockQ_hit ?_
        refine thenQ_n (hK7 _ _ ?_)
        refine WC.seq (fun K18 hK18 => ?_)
        refine WC.region ?_
        refine WL.op rfl (opW.moveV (v := sb.v) rfl ?_)
        refine WL.op rfl (opW.moveI rfl ?_)
        refine WL.op rfl (opW.cutS (hb.bel hS.old) (xs := xs) (l := (t + 64 * k)) (h' := xs.length) (m := capV sb.v) ⟨rfl, Nat.le_refl _⟩ ⟨⟨rfl, rfl⟩, (hb.bel hS.old).cap⟩ ⟨⟨_, rfl⟩, by omega⟩ ?_)
        have hcs : SlR w0 (cutV sb.v (t + 64 * k) xs.length (capV sb.v) (Enc.sz UInt8)) (xs.drop (t + 64 * k)) := by
          have h1 := hb.cut (l := (t + 64 * k)) (h := xs.length) (m := capV sb.v) (by omega) (Nat.le_refl _) hb.cap (Nat.le_refl _)
          rw [List.take_length] at h1
          exact h1
        obtain ⟨lv0, hlv0⟩ := cut_slv sb (t + 64 * k) xs.length (capV sb.v) (Enc.sz UInt8)
        rw [hlv0] at hcs
        show WL _ _ _ _ _ (upd _ _ (cutV sb.v (t + 64 * k) xs.length (capV sb.v) (Enc.sz UInt8))) _
        rw [hlv0]
        refine WL.op rfl (opW.call (rget_ok2 _ lv0 (xs.drop (t + 64 * k)) (hcs.bel hS.old) (by rw [List.length_drop]; omega) hG) rfl ?_)
        rintro _ w ⟨m, is, ls, rfl, hgm, hSg⟩
        replace hS := hS.merge hSg
        unfold gotL at hS
        simp only [List.cons_append, List.nil_append] at hS
        refine WL.op rfl (opW.moveV (v := .tuple #[.agg (Enc.enc m), .int .i64 (more : Int), .int .i64 er]) rfl ?_)
        refine WL.op rfl (opW.extract rfl rfl ?_)
        refine WL.op rfl (opW.extract rfl rfl ?_)
        refine WL.op rfl (opW.extract rfl rfl ?_)
        refine WL.op rfl (opW.allocA hS ?_)
        intro b11 w _ hS
        refine WL.op0 (opW.storeE (r := m) hS rfl rfl (by first | exact .h0 | exact .h1 | exact .h2 | exact .h3 | exact .h4 | exact .h5 | exact .h6 | exact .h7 | exact .h8 | exact .h9 | exact .h10 | exact .h11 | exact .h12 | exact .h13 | exact .h14) (by rw [mg_zero]; exact Enc.size_eq _) ?_)
        intro w hS; replace hS := hS _ (by first | exact .h0 | exact .h1 | exact .h2 | exact .h3 | exact .h4 | exact .h5 | exact .h6 | exact .h7 | exact .h8 | exact .h9 | exact .h10 | exact .h11 | exact .h12 | exact .h13 | exact .h14)
        refine WL.op rfl (opW.assignI rfl ?_)
        refine WL.op rfl (opW.assignI rfl ?_)
        refine WL.nil ?_
        refine thenQ_n (hK18 _ _ ?_)
        refine WC.seq (fun K19 hK19 => ?_)
        refine WC.seq (fun K20 hK20 => ?_)
        refine WC.region ?_
        refine WL.op rfl (opW.moveI rfl ?_)
        refine WL.op rfl (opW.neq rfl rfl ?_)
        refine WL.nil ?_
        refine thenQ_n (hK20 _ _ ?_)
        refine WC.cond _ rfl (fun hc3 => ?_) (fun hc3 => ?_)
        ·
          have hr3 := hc3
          try simp only [decide_eq_true_eq, decide_eq_false_iff_not, Bool.and_eq_true, Bool.or_eq_true, Bool.and_eq_false_iff, Bool.or_eq_false_iff, Bool.not_eq_true', Bool.not_eq_false', Int.not_lt, Int.not_le] at hc3
          have he0 : er ≠ 0 := by simpa using hr3
          rw [if_neg he0] at hgt
          refine WC.seq (fun K21 hK21 => ?_)
          refine WC.region ?_
          refine WL.op rfl (opW.buildE (r := (⟨⟨none, 0, 0⟩, (⟨false, ⟨0, 0, 0⟩, ⟨none, 0, 0⟩, vz 32, ⟨none, 0, 0⟩, ⟨none, 0, 0⟩⟩ : Message)⟩ : Tx)) (ps := Tx.parts (⟨⟨none, 0, 0⟩, (⟨false, ⟨0, 0, 0⟩, ⟨none, 0, 0⟩, vz 32, ⟨none, 0, 0⟩, ⟨none, 0, 0⟩⟩ : Message)⟩ : Tx)) (Tx.enc_eq _) (by simp only [enc_vset, enc_vz, Header.enc_eq, Header.parts, Message.enc_eq, Message.parts, Tx.enc_eq, Tx.parts]; rfl) (by (repeat' (first | exact trivial | refine And.intro ?_ ?_)) <;> first | rfl | exact Enc.size_eq _ | (simp; done)) ?_)
          refine WL.op rfl (opW.moveI rfl ?_)
          refine WL.op0 (opW.storeE (b := b2) (r := (⟨⟨none, 0, 0⟩, (⟨false, ⟨0, 0, 0⟩, ⟨none, 0, 0⟩, vz 32, ⟨none, 0, 0⟩, ⟨none, 0, 0⟩⟩ : Message)⟩ : Tx)) hS rfl rfl (by first | exact .h0 | exact .h1 | exact .h2 | exact .h3 | exact .h4 | exact .h5 | exact .h6 | exact .h7 | exact .h8 | exact .h9 | exact .h10 | exact .h11 | exact .h12 | exact .h13 | exact .h14) (by exact Enc.size_eq _) ?_)
          intro w hS; replace hS := hS _ (by first | exact .h0 | exact .h1 | exact .h2 | exact .h3 | exact .h4 | exact .h5 | exact .h6 | exact .h7 | exact .h8 | exact .h9 | exact .h10 | exact .h11 | exact .h12 | exact .h13 | exact .h14)
          refine WL.op rfl (opW.assignI rfl ?_)
          refine WL.op rfl (opW.assignI rfl ?_)
          refine WL.nil ?_
          refine thenQ_n (hK21 _ _ ?_)
          refine WC.ret ?_
          refine thenQ_r ?_
          refine bodyQ_ret (.cell (by exact hS.ldA (by first | exact .h0 | exact .h1 | exact .h2 | exact .h3 | exact .h4 | exact .h5 | exact .h6 | exact .h7 | exact .h8 | exact .h9 | exact .h10 | exact .h11 | exact .h12 | exact .h13 | exact .h14) (by exact Enc.size_eq _)) (.tmpI rfl (.tmpI rfl .nil))) ?_
          refine ⟨(⟨⟨none, 0, 0⟩, (⟨false, ⟨0, 0, 0⟩, ⟨none, 0, 0⟩, vz 32, ⟨none, 0, 0⟩, ⟨none, 0, 0⟩⟩ : Message)⟩ : Tx), [], [], by rw [hgt]; rfl, by rw [hgt]; exact zGotM, ?_⟩
          rw [hgt]
          exact zGotTL (hS.sub (List.nil_sublist _))
        ·
          have hr3 := hc3
          try simp only [decide_eq_true_eq, decide_eq_false_iff_not, Bool.and_eq_true, Bool.or_eq_true, Bool.and_eq_false_iff, Bool.or_eq_false_iff, Bool.not_eq_true', Bool.not_eq_false', Int.not_lt, Int.not_le] at hc3
          obtain rfl : er = 0 := by simpa using hr3
          rw [if_pos rfl] at hgt
          have hmore := (getF_only hG).2.2.1
          rw [List.length_drop] at hmore
          refine WC.skip ?_
          refine thenQ_n (hK19 _ _ ?_)
          refine WC.seq (fun K22 hK22 => ?_)
          refine WC.region ?_
          refine WL.op rfl (opW.loadV rfl (hS.ldA (b := b11) (cs := Enc.enc m) (by first | exact .h0 | exact .h1 | exact .h2 | exact .h3 | exact .h4 | exact .h5 | exact .h6 | exact .h7 | exact .h8 | exact .h9 | exact .h10 | exact .h11 | exact .h12 | exact .h13 | exact .h14) (by exact Enc.size_eq _)) ?_)
          refine WL.op rfl (opW.fieldAddrB rfl ?_)
          refine WL.op0 (opW.storeF (b := b8) (o := 1) (v := .agg (Enc.enc m)) (sz := 39) (cs := Enc.enc (⟨sg, (⟨false, ⟨0, 0, 0⟩, ⟨none, 0, 0⟩, vz 32, ⟨none, 0, 0⟩, ⟨none, 0, 0⟩⟩ : Message)⟩ : Tx)) (cs' := Enc.enc (⟨sg, m⟩ : Tx)) hS rfl rfl (by first | exact .h0 | exact .h1 | exact .h2 | exact .h3 | exact .h4 | exact .h5 | exact .h6 | exact .h7 | exact .h8 | exact .h9 | exact .h10 | exact .h11 | exact .h12 | exact .h13 | exact .h14) (Enc.size_eq m) (by rw [Enc.size_eq]; decide) (by simp only [Value.cells]; exact Enc.one m) (by simp only [Value.cells]; exact Tx.set_m (⟨sg, (⟨false, ⟨0, 0, 0⟩, ⟨none, 0, 0⟩, vz 32, ⟨none, 0, 0⟩, ⟨none, 0, 0⟩⟩ : Message)⟩ : Tx) m) ?_)
          intro w hS; replace hS := hS _ (by first | exact .h0 | exact .h1 | exact .h2 | exact .h3 | exact .h4 | exact .h5 | exact .h6 | exact .h7 | exact .h8 | exact .h9 | exact .h10 | exact .h11 | exact .h12 | exact .h13 | exact .h14)
          refine WL.nil ?_
          refine thenQ_n (hK22 _ _ ?_)
          refine WC.seq (fun K23 hK23 => ?_)
          refine WC.region ?_
          refine WL.op rfl (opW.loadV rfl (hS.ldA (b := b8) (cs := Enc.enc (⟨sg, m⟩ : Tx)) (by first | exact .h0 | exact .h1 | exact .h2 | exact .h3 | exact .h4 | exact .h5 | exact .h6 | exact .h7 | exact .h8 | exact .h9 | exact .h10 | exact .h11 | exact .h12 | exact .h13 | exact .h14) (by exact Enc.size_eq _)) ?_)
          refine WL.op rfl (opW.moveI rfl ?_)
          refine WL.op rfl (opW.moveI rfl ?_)
          refine WL.op rfl (opW.add rfl rfl ((show IntKind.i64.wrap _ = (((t + 64 * k + more : Nat)) : Int) from by rw [IntKind.wrap_i64]; omega)) ?_)
          refine WL.op0 (opW.storeE (b := b2) (r := (⟨sg, m⟩ : Tx)) hS rfl rfl (by first | exact .h0 | exact .h1 | exact .h2 | exact .h3 | exact .h4 | exact .h5 | exact .h6 | exact .h7 | exact .h8 | exact .h9 | exact .h10 | exact .h11 | exact .h12 | exact .h13 | exact .h14) (by exact Enc.size_eq _) ?_)
          intro w hS; replace hS := hS _ (by first | exact .h0 | exact .h1 | exact .h2 | exact .h3 | exact .h4 | exact .h5 | exact .h6 | exact .h7 | exact .h8 | exact .h9 | exact .h10 | exact .h11 | exact .h12 | exact .h13 | exact .h14)
          refine WL.op rfl (opW.assignI rfl ?_)
          refine WL.op rfl (opW.assignI rfl ?_)
          refine WL.nil ?_
          refine thenQ_n (hK23 _ _ ?_)
          refine WC.ret ?_
          refine bodyQ_ret (.cell (by exact hS.ldA (by first | exact .h0 | exact .h1 | exact .h2 | exact .h3 | exact .h4 | exact .h5 | exact .h6 | exact .h7 | exact .h8 | exact .h9 | exact .h10 | exact .h11 | exact .h12 | exact .h13 | exact .h14) (by exact Enc.size_eq _)) (.tmpI rfl (.tmpI rfl .nil))) ?_
          refine ⟨(⟨sg, m⟩ : Tx), is, ls, by rw [hgt]; rfl, by rw [hgt]; exact hgm, ?_⟩
          rw [hgt]
          show St w0 (ownE sg.v 62 (chunk k (xs.drop t)) :: [ownE m.keys.v 58 cg.keys, ownE m.instrs.v 90 is, b2E (zipI is cg.ins), ownE m.lookups.v 92 ls, b2E (zipL ls cg.lks)]) w
          exact (hS.pick (e := ownE sg.v 62 (chunk k (xs.drop t))) (by first | exact .h0 | exact .h1 | exact .h2 | exact .h3 | exact .h4 | exact .h5 | exact .h6 | exact .h7 | exact .h8 | exact .h9 | exact .h10 | exact .h11 | exact .h12 | exact .h13 | exact .h14)).sub (by repeat (first | with_reducible exact List.nil_sublist _ | with_reducible exact List.Sublist.refl _ | with_reducible refine List.Sublist.cons₂ _ ?_ | with_reducible refine List.Sublist.cons _ ?_))

set_option maxRecDepth 20000 in
set_option maxHeartbeats 1000000 in
theorem rwhole_ok (w0 : World) (sb : SlV) (xs : List UInt8) (hb : SlR w0 sb.v xs) (hxl : xs.length ≤ 1000000000) : Ret Try.prog 22 #[sb.v] w0 (gotWR w0 xs) := by
  refine Ret.enter (args := [sb.v]) Try.func22 rfl Try.ntmps22 Try.results22 rfl ?_
  have hS := St.start w0
  obtain ⟨xt, tk, er, hG⟩ : ∃ (x : TC) (t : Nat) (e : Int), gtF xs = (x, t, e) := ⟨_, _, _, rfl⟩
  refine WC.seq (fun K1 hK1 => ?_)
  refine WC.region ?_
  refine WL.op rfl (opW.allocA hS ?_)
  intro b2 w _ hS
  refine WL.op rfl (opW.assignI rfl ?_)
  rw [tx_zero] at hS
  refine WL.nil ?_
  refine thenQ_n (hK1 _ _ ?_)
  refine WC.seq (fun K2 hK2 => ?_)
  refine WC.seq (fun K3 hK3 => ?_)
  refine WC.region ?_
  refine WL.op rfl (opW.moveV (v := sb.v) rfl ?_)
  refine WL.op rfl (opW.lenV rfl ((hb.bel hS.old)) ?_)
  refine WL.op rfl (opW.gtr rfl rfl ?_)
  refine WL.nil ?_
  refine thenQ_n (hK3 _ _ ?_)
  refine WC.cond _ rfl (fun hc0 => ?_) (fun hc0 => ?_)
  ·
    have hr0 := hc0
    try simp only [decide_eq_true_eq, decide_eq_false_iff_not, Bool.and_eq_true, Bool.or_eq_true, Bool.and_eq_false_iff, Bool.or_eq_false_iff, Bool.not_eq_true', Bool.not_eq_false', Int.not_lt, Int.not_le] at hc0
    have hwl : 1232 < xs.length := by omega
    have hw4 := whF_lim hwl
    refine WC.seq (fun K4 hK4 => ?_)
    refine WC.region ?_
    refine WL.op rfl (opW.buildE (r := (⟨⟨none, 0, 0⟩, (⟨false, ⟨0, 0, 0⟩, ⟨none, 0, 0⟩, vz 32, ⟨none, 0, 0⟩, ⟨none, 0, 0⟩⟩ : Message)⟩ : Tx)) (ps := Tx.parts (⟨⟨none, 0, 0⟩, (⟨false, ⟨0, 0, 0⟩, ⟨none, 0, 0⟩, vz 32, ⟨none, 0, 0⟩, ⟨none, 0, 0⟩⟩ : Message)⟩ : Tx)) (Tx.enc_eq _) (by simp only [enc_vset, enc_vz, Header.enc_eq, Header.parts, Message.enc_eq, Message.parts, Tx.enc_eq, Tx.parts]; rfl) (by (repeat' (first | exact trivial | refine And.intro ?_ ?_)) <;> first | rfl | exact Enc.size_eq _ | (simp; done)) ?_)
    refine WL.op0 (opW.storeE (b := b2) (r := (⟨⟨none, 0, 0⟩, (⟨false, ⟨0, 0, 0⟩, ⟨none, 0, 0⟩, vz 32, ⟨none, 0, 0⟩, ⟨none, 0, 0⟩⟩ : Message)⟩ : Tx)) hS rfl rfl (by first | exact .h0 | exact .h1 | exact .h2 | exact .h3 | exact .h4 | exact .h5 | exact .h6 | exact .h7 | exact .h8 | exact .h9 | exact .h10 | exact .h11 | exact .h12 | exact .h13 | exact .h14) (by exact Enc.size_eq _) ?_)
    intro w hS; replace hS := hS _ (by first | exact .h0 | exact .h1 | exact .h2 | exact .h3 | exact .h4 | exact .h5 | exact .h6 | exact .h7 | exact .h8 | exact .h9 | exact .h10 | exact .h11 | exact .h12 | exact .h13 | exact .h14)
    refine WL.op rfl (opW.assignI rfl ?_)
    refine WL.nil ?_
    refine thenQ_n (hK4 _ _ ?_)
    refine WC.ret ?_
    refine thenQ_r ?_
    refine bodyQ_ret (.cell (by exact hS.ldA (by first | exact .h0 | exact .h1 | exact .h2 | exact .h3 | exact .h4 | exact .h5 | exact .h6 | exact .h7 | exact .h8 | exact .h9 | exact .h10 | exact .h11 | exact .h12 | exact .h13 | exact .h14) (by exact Enc.size_eq _)) (.tmpI rfl .nil)) ?_
    refine ⟨(⟨⟨none, 0, 0⟩, (⟨false, ⟨0, 0, 0⟩, ⟨none, 0, 0⟩, vz 32, ⟨none, 0, 0⟩, ⟨none, 0, 0⟩⟩ : Message)⟩ : Tx), [], [], by rw [hw4]; rfl, by rw [hw4]; exact zGotM, ?_⟩
    rw [hw4]
    exact zGotTL (hS.sub (List.nil_sublist _))
  ·
    have hr0 := hc0
    try simp only [decide_eq_true_eq, decide_eq_false_iff_not, Bool.and_eq_true, Bool.or_eq_true, Bool.and_eq_false_iff, Bool.or_eq_false_iff, Bool.not_eq_true', Bool.not_eq_false', Int.not_lt, Int.not_le] at hc0
    have hwl : ¬ 1232 < xs.length := by omega
    refine WC.skip ?_
    refine thenQ_n (hK2 _ _ ?_)
    refine WC.seq (fun K5 hK5 => ?_)
    refine WC.region ?_
    refine WL.op rfl (opW.moveV (v := sb.v) rfl ?_)
    refine WL.op rfl (opW.call (rgget_ok _ sb xs (hb.bel hS.old) hxl) rfl ?_)
    rintro _ w hgr
    obtain ⟨tx, is, ls, rfl, hgm, hSg⟩ := gotTR_of hgr hG
    replace hS := hS.merge hSg
    unfold gotTL gotL at hS
    simp only [List.cons_append, List.nil_append] at hS
    refine WL.op rfl (opW.moveV (v := .tuple #[.agg (Enc.enc tx), .int .i64 (tk : Int), .int .i64 er]) rfl ?_)
    refine WL.op rfl (opW.extract rfl rfl ?_)
    refine WL.op rfl (opW.extract rfl rfl ?_)
    refine WL.op rfl (opW.extract rfl rfl ?_)
    refine WL.op rfl (opW.allocA hS ?_)
    intro b4 w _ hS
    refine WL.op0 (opW.storeE (b := b4) (r := tx) hS rfl rfl (by first | exact .h0 | exact .h1 | exact .h2 | exact .h3 | exact .h4 | exact .h5 | exact .h6 | exact .h7 | exact .h8 | exact .h9 | exact .h10 | exact .h11 | exact .h12 | exact .h13 | exact .h14) (by rw [tx_zero]; exact Enc.size_eq _) ?_)
    intro w hS; replace hS := hS _ (by first | exact .h0 | exact .h1 | exact .h2 | exact .h3 | exact .h4 | exact .h5 | exact .h6 | exact .h7 | exact .h8 | exact .h9 | exact .h10 | exact .h11 | exact .h12 | exact .h13 | exact .h14)
    refine WL.op rfl (opW.assignI rfl ?_)
    refine WL.op rfl (opW.assignI rfl ?_)
    refine WL.nil ?_
    refine thenQ_n (hK5 _ _ ?_)
    refine WC.seq (fun K6 hK6 => ?_)
    refine WC.seq (fun K7 hK7 => ?_)
    refine WC.region ?_
    refine WL.op rfl (opW.moveI rfl ?_)
    refine WL.op rfl (opW.neq rfl rfl ?_)
    refine WL.nil ?_
    refine thenQ_n (hK7 _ _ ?_)
    refine WC.cond _ rfl (fun hc1 => ?_) (fun hc1 => ?_)
    ·
      have hr1 := hc1
      try simp only [decide_eq_true_eq, decide_eq_false_iff_not, Bool.and_eq_true, Bool.or_eq_true, Bool.and_eq_false_iff, Bool.or_eq_false_iff, Bool.not_eq_true', Bool.not_eq_false', Int.not_lt, Int.not_le] at hc1
      have he0 : er ≠ 0 := by simpa using hr1
      have hw4 := whF_e hwl hG he0
      refine WC.seq (fun K8 hK8 => ?_)
      refine WC.region ?_
      refine WL.op rfl (opW.buildE (r := (⟨⟨none, 0, 0⟩, (⟨false, ⟨0, 0, 0⟩, ⟨none, 0, 0⟩, vz 32, ⟨none, 0, 0⟩, ⟨none, 0, 0⟩⟩ : Message)⟩ : Tx)) (ps := Tx.parts (⟨⟨none, 0, 0⟩, (⟨false, ⟨0, 0, 0⟩, ⟨none, 0, 0⟩, vz 32, ⟨none, 0, 0⟩, ⟨none, 0, 0⟩⟩ : Message)⟩ : Tx)) (Tx.enc_eq _) (by simp only [enc_vset, enc_vz, Header.enc_eq, Header.parts, Message.enc_eq, Message.parts, Tx.enc_eq, Tx.parts]; rfl) (by (repeat' (first | exact trivial | refine And.intro ?_ ?_)) <;> first | rfl | exact Enc.size_eq _ | (simp; done)) ?_)
      refine WL.op rfl (opW.moveI rfl ?_)
      refine WL.op0 (opW.storeE (b := b2) (r := (⟨⟨none, 0, 0⟩, (⟨false, ⟨0, 0, 0⟩, ⟨none, 0, 0⟩, vz 32, ⟨none, 0, 0⟩, ⟨none, 0, 0⟩⟩ : Message)⟩ : Tx)) hS rfl rfl (by first | exact .h0 | exact .h1 | exact .h2 | exact .h3 | exact .h4 | exact .h5 | exact .h6 | exact .h7 | exact .h8 | exact .h9 | exact .h10 | exact .h11 | exact .h12 | exact .h13 | exact .h14) (by exact Enc.size_eq _) ?_)
      intro w hS; replace hS := hS _ (by first | exact .h0 | exact .h1 | exact .h2 | exact .h3 | exact .h4 | exact .h5 | exact .h6 | exact .h7 | exact .h8 | exact .h9 | exact .h10 | exact .h11 | exact .h12 | exact .h13 | exact .h14)
      refine WL.op rfl (opW.assignI rfl ?_)
      refine WL.nil ?_
      refine thenQ_n (hK8 _ _ ?_)
      refine WC.ret ?_
      refine thenQ_r ?_
      refine bodyQ_ret (.cell (by exact hS.ldA (by first | exact .h0 | exact .h1 | exact .h2 | exact .h3 | exact .h4 | exact .h5 | exact .h6 | exact .h7 | exact .h8 | exact .h9 | exact .h10 | exact .h11 | exact .h12 | exact .h13 | exact .h14) (by exact Enc.size_eq _)) (.tmpI rfl .nil)) ?_
      refine ⟨(⟨⟨none, 0, 0⟩, (⟨false, ⟨0, 0, 0⟩, ⟨none, 0, 0⟩, vz 32, ⟨none, 0, 0⟩, ⟨none, 0, 0⟩⟩ : Message)⟩ : Tx), [], [], by rw [hw4]; rfl, by rw [hw4]; exact zGotM, ?_⟩
      rw [hw4]
      exact zGotTL (hS.sub (List.nil_sublist _))
    ·
      have hr1 := hc1
      try simp only [decide_eq_true_eq, decide_eq_false_iff_not, Bool.and_eq_true, Bool.or_eq_true, Bool.and_eq_false_iff, Bool.or_eq_false_iff, Bool.not_eq_true', Bool.not_eq_false', Int.not_lt, Int.not_le] at hc1
      obtain rfl : er = 0 := by simpa using hr1
      refine WC.skip ?_
      refine thenQ_n (hK6 _ _ ?_)
      refine WC.seq (fun K9 hK9 => ?_)
      refine WC.seq (fun K10 hK10 => ?_)
      refine WC.region ?_
      refine WL.op rfl (opW.moveI rfl ?_)
      refine WL.op rfl (opW.moveV (v := sb.v) rfl ?_)
      refine WL.op rfl (opW.lenV rfl ((hb.bel hS.old)) ?_)
      refine WL.op rfl (opW.lss rfl rfl ?_)
      refine WL.nil ?_
      refine thenQ_n (hK10 _ _ ?_)
      refine WC.cond _ rfl (fun hc2 => ?_) (fun hc2 => ?_)
      ·
        have hr2 := hc2
        try simp only [decide_eq_true_eq, decide_eq_false_iff_not, Bool.and_eq_true, Bool.or_eq_true, Bool.and_eq_false_iff, Bool.or_eq_false_iff, Bool.not_eq_true', Bool.not_eq_false', Int.not_lt, Int.not_le] at hc2
        have hw4 := whF_more hwl hG (by omega)
        refine WC.seq (fun K11 hK11 => ?_)
        refine WC.region ?_
        refine WL.op rfl (opW.buildE (r := (⟨⟨none, 0, 0⟩, (⟨false, ⟨0, 0, 0⟩, ⟨none, 0, 0⟩, vz 32, ⟨none, 0, 0⟩, ⟨none, 0, 0⟩⟩ : Message)⟩ : Tx)) (ps := Tx.parts (⟨⟨none, 0, 0⟩, (⟨false, ⟨0, 0, 0⟩, ⟨none, 0, 0⟩, vz 32, ⟨none, 0, 0⟩, ⟨none, 0, 0⟩⟩ : Message)⟩ : Tx)) (Tx.enc_eq _) (by simp only [enc_vset, enc_vz, Header.enc_eq, Header.parts, Message.enc_eq, Message.parts, Tx.enc_eq, Tx.parts]; rfl) (by (repeat' (first | exact trivial | refine And.intro ?_ ?_)) <;> first | rfl | exact Enc.size_eq _ | (simp; done)) ?_)
        refine WL.op0 (opW.storeE (b := b2) (r := (⟨⟨none, 0, 0⟩, (⟨false, ⟨0, 0, 0⟩, ⟨none, 0, 0⟩, vz 32, ⟨none, 0, 0⟩, ⟨none, 0, 0⟩⟩ : Message)⟩ : Tx)) hS rfl rfl (by first | exact .h0 | exact .h1 | exact .h2 | exact .h3 | exact .h4 | exact .h5 | exact .h6 | exact .h7 | exact .h8 | exact .h9 | exact .h10 | exact .h11 | exact .h12 | exact .h13 | exact .h14) (by exact Enc.size_eq _) ?_)
        intro w hS; replace hS := hS _ (by first | exact .h0 | exact .h1 | exact .h2 | exact .h3 | exact .h4 | exact .h5 | exact .h6 | exact .h7 | exact .h8 | exact .h9 | exact .h10 | exact .h11 | exact .h12 | exact .h13 | exact .h14)
        refine WL.op rfl (opW.assignI rfl ?_)
        refine WL.nil ?_
        refine thenQ_n (hK11 _ _ ?_)
        refine WC.ret ?_
        refine thenQ_r ?_
        refine bodyQ_ret (.cell (by exact hS.ldA (by first | exact .h0 | exact .h1 | exact .h2 | exact .h3 | exact .h4 | exact .h5 | exact .h6 | exact .h7 | exact .h8 | exact .h9 | exact .h10 | exact .h11 | exact .h12 | exact .h13 | exact .h14) (by exact Enc.size_eq _)) (.tmpI rfl .nil)) ?_
        refine ⟨(⟨⟨none, 0, 0⟩, (⟨false, ⟨0, 0, 0⟩, ⟨none, 0, 0⟩, vz 32, ⟨none, 0, 0⟩, ⟨none, 0, 0⟩⟩ : Message)⟩ : Tx), [], [], by rw [hw4]; rfl, by rw [hw4]; exact zGotM, ?_⟩
        rw [hw4]
        exact zGotTL (hS.sub (List.nil_sublist _))
      ·
        have hr2 := hc2
        try simp only [decide_eq_true_eq, decide_eq_false_iff_not, Bool.and_eq_true, Bool.or_eq_true, Bool.and_eq_false_iff, Bool.or_eq_false_iff, Bool.not_eq_true', Bool.not_eq_false', Int.not_lt, Int.not_le] at hc2
        have hw4 := whF_ok hwl hG (by omega)
        refine WC.skip ?_
        refine thenQ_n (hK9 _ _ ?_)
        refine WC.seq (fun K12 hK12 => ?_)
        refine WC.region ?_
        refine WL.op rfl (opW.loadV rfl (hS.ldA (b := b4) (cs := Enc.enc tx) (by first | exact .h0 | exact .h1 | exact .h2 | exact .h3 | exact .h4 | exact .h5 | exact .h6 | exact .h7 | exact .h8 | exact .h9 | exact .h10 | exact .h11 | exact .h12 | exact .h13 | exact .h14) (by exact Enc.size_eq _)) ?_)
        refine WL.op0 (opW.storeE (b := b2) (r := tx) hS rfl rfl (by first | exact .h0 | exact .h1 | exact .h2 | exact .h3 | exact .h4 | exact .h5 | exact .h6 | exact .h7 | exact .h8 | exact .h9 | exact .h10 | exact .h11 | exact .h12 | exact .h13 | exact .h14) (by exact Enc.size_eq _) ?_)
        intro w hS; replace hS := hS _ (by first | exact .h0 | exact .h1 | exact .h2 | exact .h3 | exact .h4 | exact .h5 | exact .h6 | exact .h7 | exact .h8 | exact .h9 | exact .h10 | exact .h11 | exact .h12 | exact .h13 | exact .h14)
        refine WL.op rfl (opW.assignI rfl ?_)
        refine WL.nil ?_
        refine thenQ_n (hK12 _ _ ?_)
        refine WC.ret ?_
        refine bodyQ_ret (.cell (by exact hS.ldA (by first | exact .h0 | exact .h1 | exact .h2 | exact .h3 | exact .h4 | exact .h5 | exact .h6 | exact .h7 | exact .h8 | exact .h9 | exact .h10 | exact .h11 | exact .h12 | exact .h13 | exact .h14) (by exact Enc.size_eq _)) (.tmpI rfl .nil)) ?_
        refine ⟨tx, is, ls, by rw [hw4]; rfl, by rw [hw4]; exact hgm, ?_⟩
        rw [hw4]
        show St w0 (ownE tx.sigs.v 62 xt.sigs :: [ownE tx.m.keys.v 58 xt.m.keys, ownE tx.m.instrs.v 90 is, b2E (zipI is xt.m.ins), ownE tx.m.lookups.v 92 ls, b2E (zipL ls xt.m.lks)]) w
        exact hS.sub (by repeat (first | with_reducible exact List.nil_sublist _ | with_reducible exact List.Sublist.refl _ | with_reducible refine List.Sublist.cons₂ _ ?_ | with_reducible refine List.Sublist.cons _ ?_))

end Go.Fer
