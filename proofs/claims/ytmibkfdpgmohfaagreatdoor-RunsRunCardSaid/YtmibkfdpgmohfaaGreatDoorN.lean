/- TwinMessage -/
import Derived.Test.YtmibkfdpgmohfaaGreatDoorM
set_option linter.all false
namespace Go.Fer
open Go Go.Proofs Go.RowKit

theorem twinMsg_ok (w0 : World) (m : Message) (c : MC) (ins : List Instr) (lks : List Lookup) (hc : IsM w0 m c ins lks) (hsz : c.size < 20000) : Ret Tryz.prog 49 #[.agg (Enc.enc m)] w0 (fun u w' => ∃ (kf : Value) (kc iv lv : SlV) (li ll : List (BT × BT)), u = .agg (Enc.enc (⟨m.v0, m.header, kc, m.recent, iv, lv⟩ : Message)) ∧ kc.v = cutV kf 0 c.keys.length (c.keys.length + 3) (Enc.sz (Vector UInt8 32)) ∧ capV kf = c.keys.length + 3 ∧ Tws li c.ins ∧ Tws ll c.lks ∧ St w0 [tpE ll, ownE lv.v 64 (List.zipWith tL lks ll), tpE li, ownE iv.v 61 (List.zipWith tI ins li), ownE kf 62 (c.keys ++ [markK, markK, markK])] w') := by
 refine Ret.enter (args := [.agg (Enc.enc m)]) Tryz.func49 rfl Tryz.ntmps49 Tryz.results49 rfl ?_
 have hS := St.start w0
 have hil := hc.ii.1
 have hll := hc.ll.1
 unfold MC.size at hsz
 refine WC.seq (fun K1 hK1 => ?_)
 refine WC.region ?_
 refine WL.op rfl (opW.boxA hS rfl ?_)
 intro b1 w _ hS
 refine WL.op rfl (opW.allocA hS ?_)
 intro b2 w _ hS
 refine WL.nil ?_
 refine thenQ_n (hK1 _ _ ?_)
 refine WC.seq (fun K2 hK2 => ?_)
 refine WC.region ?_
 refine WL.op rfl (opW.loadV rfl (hS.ldA (cs := Enc.enc m) (by repeat constructor) (Enc.size_eq m)) ?_)
 refine WL.op rfl (opW.allocA hS ?_)
 intro b3 w _ hS
 refine WL.op0 (opW.storeE hS rfl rfl (by repeat constructor) (by first | rfl | exact Enc.size_eq _) ?_)
 intro w hS; replace hS := hS _ (by repeat constructor)
 refine WL.nil ?_
 refine thenQ_n (hK2 _ _ ?_)
 refine WC.seq (fun K3 hK3 => ?_)
 refine WC.region ?_
 refine WL.op rfl (opW.fieldAddrB rfl ?_)
 refine WL.op rfl (opW.loadV rfl (hS.ld1 (by repeat constructor) (Message.at_keys m)) ?_)
 refine WL.op rfl (opW.call (twinKeys_ok _ _ c.keys (hc.k.bel hS.old) (by omega)) rfl ?_)
 rintro u9 w ⟨kf, huk, hcf, hn, hw⟩; replace hS := hS.newOwn hw hn.1 hn.2; obtain ⟨kc, rfl⟩ : ∃ s : SlV, u9 = s.v := (by rw [huk]; exact (SlR.head (hS.sl (v := kf) (xs := c.keys ++ [markK, markK, markK]) (by repeat constructor)) (by omega) (by omega)).asV)
 refine WL.op rfl (opW.fieldAddrB rfl ?_)
 refine WL.op0 (opW.storeF (v := kc.v) (sz := 1) (cs' := Enc.enc ({ m with keys := kc } : Message)) hS rfl rfl (by repeat constructor) rfl (by rw [Enc.size_eq]; decide) (Enc.one (α := SlV) kc) (Message.set_keys m kc) ?_)
 intro w hS; replace hS := hS _ (by repeat constructor)
 refine WL.nil ?_
 refine thenQ_n (hK3 _ _ ?_)
 refine WC.seq (fun K4 hK4 => ?_)
 refine WC.region ?_
 refine WL.op rfl (opW.fieldAddrB rfl ?_)
 refine WL.op0 (opW.storeF (v := (⟨none, 0, 0⟩ : SlV).v) (sz := 1) (cs' := Enc.enc (⟨m.v0, m.header, kc, m.recent, (⟨none, 0, 0⟩ : SlV), m.lookups⟩ : Message)) hS rfl rfl (by repeat constructor) rfl (by rw [Enc.size_eq]; decide) (Enc.one (α := SlV) (⟨none, 0, 0⟩ : SlV)) (Message.set_instrs (⟨m.v0, m.header, kc, m.recent, m.instrs, m.lookups⟩ : Message) (⟨none, 0, 0⟩ : SlV)) ?_)
 intro w hS; replace hS := hS _ (by repeat constructor)
 refine WL.nil ?_
 refine thenQ_n (hK4 _ _ ?_)
 refine WC.seq (fun K5 hK5 => ?_)
 refine WC.region ?_
 refine WL.op rfl (opW.fieldAddrB rfl ?_)
 refine WL.op0 (opW.storeF (v := (⟨none, 0, 0⟩ : SlV).v) (sz := 1) (cs' := Enc.enc (⟨m.v0, m.header, kc, m.recent, (⟨none, 0, 0⟩ : SlV), (⟨none, 0, 0⟩ : SlV)⟩ : Message)) hS rfl rfl (by repeat constructor) rfl (by rw [Enc.size_eq]; decide) (Enc.one (α := SlV) (⟨none, 0, 0⟩ : SlV)) (Message.set_lookups (⟨m.v0, m.header, kc, m.recent, (⟨none, 0, 0⟩ : SlV), m.lookups⟩ : Message) (⟨none, 0, 0⟩ : SlV)) ?_)
 intro w hS; replace hS := hS _ (by repeat constructor)
 refine WL.nil ?_
 refine thenQ_n (hK5 _ _ ?_)
 refine WC.seq (fun K6 hK6 => ?_)
 refine WC.seq (fun K7 hK7 => ?_)
 refine WC.region ?_
 refine WL.op rfl (opW.assignI rfl ?_)
 refine WL.nil ?_
 refine thenQ_n (hK7 _ _ ?_)
 refine WC.block ?_
 refine WC.loop (fun q f w => ∃ (k : Nat) (li : List (BT × BT)) (iv : SlV), Fits [(1, .pointer (some ⟨b1, 0, none⟩)), (2, .pointer (some ⟨b2, 0, none⟩)), (3, .pointer (some ⟨b3, 0, none⟩)), (4, .int .i64 (k : Int))] f ∧ St w0 [tpE li, ownE iv.v 61 (List.zipWith tI (ins.take k) li), ownE kf 62 (c.keys ++ [markK, markK, markK]), blkE b3 (Enc.enc (⟨m.v0, m.header, kc, m.recent, iv, (⟨none, 0, 0⟩ : SlV)⟩ : Message)) 32, blkE b2 (joinA [#[.bool false], joinA [#[.int .u8 0], #[.int .u8 0], #[.int .u8 0]], #[.slice none 0 0], (Array.replicate 32 (.int .u8 0)), #[.slice none 0 0], #[.slice none 0 0]]) 32, blkE b1 (Enc.enc m) 32] w ∧ Tws li (c.ins.take k) ∧ k ≤ ins.length ∧ q = ins.length - k) (ins.length) ?_ ?_
 ·
  have h0 : St w0 [ownE kf 62 (c.keys ++ [markK, markK, markK]), blkE b3 (Enc.enc (⟨m.v0, m.header, kc, m.recent, (⟨none, 0, 0⟩ : SlV), (⟨none, 0, 0⟩ : SlV)⟩ : Message)) 32, blkE b2 (joinA [#[.bool false], joinA [#[.int .u8 0], #[.int .u8 0], #[.int .u8 0]], #[.slice none 0 0], (Array.replicate 32 (.int .u8 0)), #[.slice none 0 0], #[.slice none 0 0]]) 32, blkE b1 (Enc.enc m) 32] _ := hS
  exact ⟨0, [], (⟨none, 0, 0⟩ : SlV), ⟨rfl, rfl, rfl, rfl, trivial⟩, (h0.nilOwn 61).tpNew, ⟨rfl, fun i h => by cases h⟩, Nat.zero_le _, rfl⟩
 ·
  rintro q f w ⟨k, li, iv, hfit, hS, htw, hk0, hm⟩
  refine WC.fits _ hfit (fun g => ?_)
  clear hfit
  refine WC.seq (fun K8 hK8 => ?_)
  refine WC.seq (fun K9 hK9 => ?_)
  refine WC.region ?_
  refine WL.op rfl (opW.moveI rfl ?_)
  refine WL.op rfl (opW.fieldAddrB rfl ?_)
  refine WL.op rfl (opW.loadV rfl (hS.ld1 (by repeat constructor) (Message.at_instrs m)) ?_)
  refine WL.op rfl (opW.lenV rfl ((hc.i.bel hS.old)) ?_)
  refine WL.op rfl (opW.lss rfl rfl ?_)
  refine WL.nil ?_
  refine thenQ_n (hK9 _ _ ?_)
  refine WC.cond _ rfl (fun hc0 => ?_) (fun hc0 => ?_)
  ·
   have hr0 := hc0
   try simp only [sq1,sq2,sq3,sq4,sq5,sq6,sq7,sq8,sq9,sq0] at hc0
   have hkl : k < ins.length := by omega
   have hkc : k < c.ins.length := by omega
   obtain ⟨hi1, hi2, hi3⟩ := hc.ii.2 k hkl hkc
   have hbb := sumB_ge hkc
   have hlk : li.length = k := by rw [htw.1, List.length_take]; omega
   have hzl : (List.zipWith tI (ins.take k) li).length = k := by rw [tI_len, List.length_take]; omega
   refine WC.skip ?_
   refine thenQ_n (hK8 _ _ ?_)
   refine WC.seq (fun K10 hK10 => ?_)
   refine WC.block ?_
   refine WC.draw 24 (.look 0 (.look 1 (.look 2 (.look 3 (.look 4 (.look 5 (.look 6 (.look 7 (.look 8 (.look 9 (.look 10 (.look 11 (.look 12 (.look 13 (.look 15 (.look 16 (.look 17 (.look 18 (.look 19 (.look 20 (.one 14 (.one 21 (.look 22 (.one 23 (.one 24 (.one 25 (.one 26 .nil))))))))))))))))))))))))))) (by kernel_rfl) (fun _ _ _ h => h) (fun w1 hw1 => ?_)
   replace hS := hS.bel hw1
   have hS1 := hS
   have hT := St.start w1
   refine ML.look rfl rfl rfl (fun w hw => (by have hS := hS1.bel hw; exact opW.fieldAddrB rfl ⟨rfl, rfl⟩)) ?_
   refine ML.look rfl rfl rfl (fun w hw => (by have hS := hS1.bel hw; exact opW.loadV rfl (hS.ld1 (by repeat constructor) (Message.at_instrs (⟨m.v0, m.header, kc, m.recent, iv, (⟨none, 0, 0⟩ : SlV)⟩ : Message))) ⟨rfl, rfl⟩)) ?_
   refine ML.look rfl rfl rfl (fun w hw => (by have hS := hS1.bel hw; exact opW.fieldAddrB rfl ⟨rfl, rfl⟩)) ?_
   refine ML.look rfl rfl rfl (fun w hw => (by have hS := hS1.bel hw; exact opW.loadV rfl (hS.ld1 (by repeat constructor) (Message.at_instrs m)) ⟨rfl, rfl⟩)) ?_
   refine ML.look rfl rfl rfl (fun w hw => (by have hS := hS1.bel hw; exact opW.moveI rfl ⟨rfl, rfl⟩)) ?_
   refine ML.look rfl rfl rfl (fun w hw => (by have hS := hS1.bel hw; exact opW.idxV rfl ((hc.i.bel hS.old)) rfl (by omega) ⟨rfl, rfl⟩)) ?_
   refine ML.look rfl rfl rfl (fun w hw => (by have hS := hS1.bel hw; exact opW.fieldAddr rfl ((hc.i.bel hS.old).isP hkl) ⟨rfl, rfl⟩)) ?_
   refine ML.look rfl rfl rfl (fun w hw => (by have hS := hS1.bel hw; exact opW.loadV rfl (Ld.pt1 ((hc.i.bel hS.old).isPt hkl) 0 (Instr.at_program _)) ⟨rfl, rfl⟩)) ?_
   refine ML.look rfl rfl rfl (fun w hw => (by have hS := hS1.bel hw; exact opW.fieldAddrB rfl ⟨rfl, rfl⟩)) ?_
   refine ML.look rfl rfl rfl (fun w hw => (by have hS := hS1.bel hw; exact opW.loadV rfl (hS.ld1 (by repeat constructor) (Message.at_instrs m)) ⟨rfl, rfl⟩)) ?_
   refine ML.look rfl rfl rfl (fun w hw => (by have hS := hS1.bel hw; exact opW.moveI rfl ⟨rfl, rfl⟩)) ?_
   refine ML.look rfl rfl rfl (fun w hw => (by have hS := hS1.bel hw; exact opW.idxV rfl ((hc.i.bel hS.old)) rfl (by omega) ⟨rfl, rfl⟩)) ?_
   refine ML.look rfl rfl rfl (fun w hw => (by have hS := hS1.bel hw; exact opW.fieldAddr rfl ((hc.i.bel hS.old).isP hkl) ⟨rfl, rfl⟩)) ?_
   refine ML.look rfl rfl rfl (fun w hw => (by have hS := hS1.bel hw; exact opW.loadV rfl (Ld.pt1 ((hc.i.bel hS.old).isPt hkl) 1 (Instr.at_accounts _)) ⟨rfl, rfl⟩)) ?_
   refine ML.look rfl rfl rfl (fun w hw => (by have hS := hS1.bel hw; exact opW.fieldAddrB rfl ⟨rfl, rfl⟩)) ?_
   refine ML.look rfl rfl rfl (fun w hw => (by have hS := hS1.bel hw; exact opW.loadV rfl (hS.ld1 (by repeat constructor) (Message.at_instrs m)) ⟨rfl, rfl⟩)) ?_
   refine ML.look rfl rfl rfl (fun w hw => (by have hS := hS1.bel hw; exact opW.moveI rfl ⟨rfl, rfl⟩)) ?_
   refine ML.look rfl rfl rfl (fun w hw => (by have hS := hS1.bel hw; exact opW.idxV rfl ((hc.i.bel hS.old)) rfl (by omega) ⟨rfl, rfl⟩)) ?_
   refine ML.look rfl rfl rfl (fun w hw => (by have hS := hS1.bel hw; exact opW.fieldAddr rfl ((hc.i.bel hS.old).isP hkl) ⟨rfl, rfl⟩)) ?_
   refine ML.look rfl rfl rfl (fun w hw => (by have hS := hS1.bel hw; exact opW.loadV rfl (Ld.pt1 ((hc.i.bel hS.old).isPt hkl) 2 (Instr.at_data _)) ⟨rfl, rfl⟩)) ?_
   refine ML.one rfl rfl rfl (opW.call (twinBytes_ok _ _ (c.ins[k].2.1) ((hi2).bel hS.old) (by omega)) rfl ?_)
   rintro u34 w ⟨fa, hua, hca, hna, hw⟩; replace hT := hT.newOwn hw hna.1 hna.2; obtain ⟨sa, rfl⟩ : ∃ s : SlV, u34 = s.v := (by rw [hua]; exact (SlR.head (hT.sl (v := fa) (xs := c.ins[k].2.1 ++ [165, 165, 165]) (by repeat constructor)) (by omega) (by omega)).asV)
   refine ⟨hT.old, ?_⟩
   have hS := hS1.merge hT
   try simp only [List.cons_append, List.nil_append] at hS
   refine ML.one rfl rfl rfl (opW.call (twinBytes_ok _ _ (c.ins[k].2.2) ((hi3).bel hS.old) (by omega)) rfl ?_)
   rintro u41 w ⟨fd, hud, hcd, hnd, hw⟩; replace hT := hT.newOwn hw hnd.1 hnd.2; obtain ⟨sd, rfl⟩ : ∃ s : SlV, u41 = s.v := (by rw [hud]; exact (SlR.head (hT.sl (v := fd) (xs := c.ins[k].2.2 ++ [165, 165, 165]) (by repeat constructor)) (by omega) (by omega)).asV)
   refine ⟨hT.old, ?_⟩
   have hS := hS1.merge hT
   try simp only [List.cons_append, List.nil_append] at hS
   refine ML.look rfl rfl rfl (fun w hw => (by have hS := hS1.bel hw; exact opW.buildE (r := ((⟨ins[k].program, sa, sd⟩ : Instr) : Instr)) (ps := Instr.parts ((⟨ins[k].program, sa, sd⟩ : Instr) : Instr)) (Instr.enc_eq _) (by first | rfl | (simp only [sysK, az, markK, enc_vset, enc_vz, Account.enc_eq, Account.parts, Role.enc_eq, Role.parts, Instr.enc_eq, Instr.parts, Ask.enc_eq, Ask.parts, Cut.enc_eq, Cut.parts, PairS.enc_eq, PairS.parts, RAsk.enc_eq, RAsk.parts, Header.enc_eq, Header.parts, Lookup.enc_eq, Lookup.parts, Message.enc_eq, Message.parts, Tx.enc_eq, Tx.parts, Budget.enc_eq, Budget.parts, Ready.enc_eq, Ready.parts, Holding.enc_eq, Holding.parts, Outcome.enc_eq, Outcome.parts, Running.enc_eq, Running.parts, StS.enc_eq, StS.parts]; rfl)) (by (repeat' (first | exact trivial | refine And.intro ?_ ?_)) <;> first | rfl | exact Enc.size_eq _ | (simp; done)) ⟨rfl, rfl⟩)) ?_
   refine ML.one rfl rfl rfl (opW.buildSl hT (([(⟨ins[k].program, sa, sd⟩ : Instr)] : List Instr)) [.agg (Enc.enc (⟨ins[k].program, sa, sd⟩ : Instr))] rfl rfl rfl rfl (by decide) ?_)
   intro b43 w hw hT
   refine ⟨hT.old, ?_⟩
   have hS := hS1.merge hT
   try simp only [List.cons_append, List.nil_append] at hS
   refine ML.put1 rfl rfl rfl rfl (opW.appendOwn (α := Instr) rfl hS rfl (by repeat constructor) (hS.sl (by repeat constructor)) (by simp only [List.length_cons, List.length_nil]; omega) (by simp only [maxLen, List.length_cons, List.length_nil]; omega) ?_)
   intro v44 w hS; replace hS := hS _ (by repeat constructor)
   obtain ⟨iw, rfl⟩ := (hS.sl (v := v44) (xs := List.zipWith tI (ins.take k) li ++ [(⟨ins[k].program, sa, sd⟩ : Instr)]) (by repeat constructor)).asV
   refine ML.put1 rfl rfl rfl rfl (opW.fieldAddrB rfl ?_)
   refine ML.put0 rfl rfl rfl (opW.storeF (v := iw.v) (sz := 1) (cs' := Enc.enc (⟨m.v0, m.header, kc, m.recent, iw, (⟨none, 0, 0⟩ : SlV)⟩ : Message)) hS rfl rfl (by repeat constructor) rfl (by rw [Enc.size_eq]; decide) (Enc.one (α := SlV) iw) (Message.set_instrs (⟨m.v0, m.header, kc, m.recent, iv, (⟨none, 0, 0⟩ : SlV)⟩ : Message) iw) ?_)
   intro w hS; replace hS := hS _ (by repeat constructor)
   refine ML.nil ?_
   refine blockQ_n ?_
   refine thenQ_n (hK10 _ _ ?_)
   refine WC.region ?_
   refine WL.op rfl (opW.moveI rfl ?_)
   refine WL.op rfl (opW.add rfl rfl (wrap_i64 (by omega)) ?_)
   refine WL.op rfl (opW.assignI rfl ?_)
   refine WL.nil ?_
   refine thenQ_n ?_
   have hadd := St.tpAdd (p := (⟨fa, sa, c.ins[k].2.1⟩, ⟨fd, sd, c.ins[k].2.2⟩)) (((hS.pick (e := tpE li) (by repeat constructor)).pick (e := ownE fa 5 (c.ins[k].2.1 ++ [165, 165, 165])) (by repeat constructor)).pick (e := ownE fd 5 (c.ins[k].2.2 ++ [165, 165, 165])) (by repeat constructor))
   have htw' := htw.snoc hkc (p := (⟨fa, sa, c.ins[k].2.1⟩, ⟨fd, sd, c.ins[k].2.2⟩)) ⟨hua, hca⟩ ⟨hud, hcd⟩ rfl rfl
   refine ⟨ins.length - (k + 1), by omega, k + 1, li ++ [(⟨fa, sa, c.ins[k].2.1⟩, ⟨fd, sd, c.ins[k].2.2⟩)], iw, ⟨rfl, rfl, rfl, congrArg (Value.int .i64) (by omega), trivial⟩, ?_, htw', by omega, rfl⟩
   rw [zip_snoc _ hkl hlk _ (show _ = (⟨ins[k].program, sa, sd⟩ : Instr) from rfl)]
   exact hadd.sub (by repeat with_reducible first | exact su1 _ | exact su2 _ | refine su3 ?_ | refine su4 ?_)
  ·
   have hr0 := hc0
   try simp only [sq1,sq2,sq3,sq4,sq5,sq6,sq7,sq8,sq9,sq0] at hc0
   obtain rfl : k = ins.length := by omega
   rw [List.take_of_length_le (by omega)] at htw
   rw [List.take_length] at hS
   refine WC.exit ?_
   refine thenQ_e ?_
   refine thenQ_e ?_
   refine blockQ_hit ?_
   refine thenQ_n (hK6 _ _ ?_)
   refine WC.seq (fun K11 hK11 => ?_)
   refine WC.seq (fun K12 hK12 => ?_)
   refine WC.region ?_
   refine WL.op rfl (opW.assignI rfl ?_)
   refine WL.nil ?_
   refine thenQ_n (hK12 _ _ ?_)
   refine WC.block ?_
   refine WC.loop (fun q f w => ∃ (k : Nat) (ll : List (BT × BT)) (lv : SlV), Fits [(1, .pointer (some ⟨b1, 0, none⟩)), (2, .pointer (some ⟨b2, 0, none⟩)), (3, .pointer (some ⟨b3, 0, none⟩)), (5, .int .i64 (k : Int))] f ∧ St w0 [tpE ll, ownE lv.v 64 (List.zipWith tL (lks.take k) ll), tpE li, ownE iv.v 61 (List.zipWith tI ins li), ownE kf 62 (c.keys ++ [markK, markK, markK]), blkE b3 (Enc.enc (⟨m.v0, m.header, kc, m.recent, iv, lv⟩ : Message)) 32, blkE b2 (joinA [#[.bool false], joinA [#[.int .u8 0], #[.int .u8 0], #[.int .u8 0]], #[.slice none 0 0], (Array.replicate 32 (.int .u8 0)), #[.slice none 0 0], #[.slice none 0 0]]) 32, blkE b1 (Enc.enc m) 32] w ∧ Tws ll (c.lks.take k) ∧ k ≤ lks.length ∧ q = lks.length - k) (lks.length) ?_ ?_
   ·
    exact ⟨0, [], (⟨none, 0, 0⟩ : SlV), ⟨rfl, rfl, rfl, rfl, trivial⟩, (hS.nilOwn 64).tpNew, ⟨rfl, fun i h => by cases h⟩, Nat.zero_le _, rfl⟩
   ·
    rintro q f w ⟨k, ll, lv, hfit, hS, htl, hk0, hm⟩
    refine WC.fits _ hfit (fun g => ?_)
    clear hfit
    refine WC.seq (fun K13 hK13 => ?_)
    refine WC.seq (fun K14 hK14 => ?_)
    refine WC.region ?_
    refine WL.op rfl (opW.moveI rfl ?_)
    refine WL.op rfl (opW.fieldAddrB rfl ?_)
    refine WL.op rfl (opW.loadV rfl (hS.ld1 (by repeat constructor) (Message.at_lookups m)) ?_)
    refine WL.op rfl (opW.lenV rfl ((hc.l.bel hS.old)) ?_)
    refine WL.op rfl (opW.lss rfl rfl ?_)
    refine WL.nil ?_
    refine thenQ_n (hK14 _ _ ?_)
    refine WC.cond _ rfl (fun hc1 => ?_) (fun hc1 => ?_)
    ·
     have hr1 := hc1
     try simp only [sq1,sq2,sq3,sq4,sq5,sq6,sq7,sq8,sq9,sq0] at hc1
     have hkl : k < lks.length := by omega
     have hkc : k < c.lks.length := by omega
     obtain ⟨hi1, hi2, hi3⟩ := hc.ll.2 k hkl hkc
     have hbb := sumB_ge hkc
     have hlk : ll.length = k := by rw [htl.1, List.length_take]; omega
     have hzl : (List.zipWith tL (lks.take k) ll).length = k := by rw [tL_len, List.length_take]; omega
     refine WC.skip ?_
     refine thenQ_n (hK13 _ _ ?_)
     refine WC.seq (fun K15 hK15 => ?_)
     refine WC.block ?_
     refine WC.draw 24 (.look 0 (.look 1 (.look 2 (.look 3 (.look 4 (.look 5 (.look 6 (.look 7 (.look 8 (.look 9 (.look 10 (.look 11 (.look 12 (.look 13 (.look 15 (.look 16 (.look 17 (.look 18 (.look 19 (.look 20 (.one 14 (.one 21 (.look 22 (.one 23 (.one 24 (.one 25 (.one 26 .nil))))))))))))))))))))))))))) (by kernel_rfl) (fun _ _ _ h => h) (fun w1 hw1 => ?_)
     replace hS := hS.bel hw1
     have hS1 := hS
     have hT := St.start w1
     refine ML.look rfl rfl rfl (fun w hw => (by have hS := hS1.bel hw; exact opW.fieldAddrB rfl ⟨rfl, rfl⟩)) ?_
     refine ML.look rfl rfl rfl (fun w hw => (by have hS := hS1.bel hw; exact opW.loadV rfl (hS.ld1 (by repeat constructor) (Message.at_lookups (⟨m.v0, m.header, kc, m.recent, iv, lv⟩ : Message))) ⟨rfl, rfl⟩)) ?_
     refine ML.look rfl rfl rfl (fun w hw => (by have hS := hS1.bel hw; exact opW.fieldAddrB rfl ⟨rfl, rfl⟩)) ?_
     refine ML.look rfl rfl rfl (fun w hw => (by have hS := hS1.bel hw; exact opW.loadV rfl (hS.ld1 (by repeat constructor) (Message.at_lookups m)) ⟨rfl, rfl⟩)) ?_
     refine ML.look rfl rfl rfl (fun w hw => (by have hS := hS1.bel hw; exact opW.moveI rfl ⟨rfl, rfl⟩)) ?_
     refine ML.look rfl rfl rfl (fun w hw => (by have hS := hS1.bel hw; exact opW.idxV rfl ((hc.l.bel hS.old)) rfl (by omega) ⟨rfl, rfl⟩)) ?_
     refine ML.look rfl rfl rfl (fun w hw => (by have hS := hS1.bel hw; exact opW.fieldAddr rfl ((hc.l.bel hS.old).isP hkl) ⟨rfl, rfl⟩)) ?_
     refine ML.look rfl rfl rfl (fun w hw => (by have hS := hS1.bel hw; exact opW.loadV rfl (Ld.ptA ((hc.l.bel hS.old).isPt hkl) 0 (Lookup.ex_table _) (by rw [Enc.size_eq]; decide)) ⟨rfl, rfl⟩)) ?_
     refine ML.look rfl rfl rfl (fun w hw => (by have hS := hS1.bel hw; exact opW.fieldAddrB rfl ⟨rfl, rfl⟩)) ?_
     refine ML.look rfl rfl rfl (fun w hw => (by have hS := hS1.bel hw; exact opW.loadV rfl (hS.ld1 (by repeat constructor) (Message.at_lookups m)) ⟨rfl, rfl⟩)) ?_
     refine ML.look rfl rfl rfl (fun w hw => (by have hS := hS1.bel hw; exact opW.moveI rfl ⟨rfl, rfl⟩)) ?_
     refine ML.look rfl rfl rfl (fun w hw => (by have hS := hS1.bel hw; exact opW.idxV rfl ((hc.l.bel hS.old)) rfl (by omega) ⟨rfl, rfl⟩)) ?_
     refine ML.look rfl rfl rfl (fun w hw => (by have hS := hS1.bel hw; exact opW.fieldAddr rfl ((hc.l.bel hS.old).isP hkl) ⟨rfl, rfl⟩)) ?_
     refine ML.look rfl rfl rfl (fun w hw => (by have hS := hS1.bel hw; exact opW.loadV rfl (Ld.pt1 ((hc.l.bel hS.old).isPt hkl) 32 (Lookup.at_writes _)) ⟨rfl, rfl⟩)) ?_
     refine ML.look rfl rfl rfl (fun w hw => (by have hS := hS1.bel hw; exact opW.fieldAddrB rfl ⟨rfl, rfl⟩)) ?_
     refine ML.look rfl rfl rfl (fun w hw => (by have hS := hS1.bel hw; exact opW.loadV rfl (hS.ld1 (by repeat constructor) (Message.at_lookups m)) ⟨rfl, rfl⟩)) ?_
     refine ML.look rfl rfl rfl (fun w hw => (by have hS := hS1.bel hw; exact opW.moveI rfl ⟨rfl, rfl⟩)) ?_
     refine ML.look rfl rfl rfl (fun w hw => (by have hS := hS1.bel hw; exact opW.idxV rfl ((hc.l.bel hS.old)) rfl (by omega) ⟨rfl, rfl⟩)) ?_
     refine ML.look rfl rfl rfl (fun w hw => (by have hS := hS1.bel hw; exact opW.fieldAddr rfl ((hc.l.bel hS.old).isP hkl) ⟨rfl, rfl⟩)) ?_
     refine ML.look rfl rfl rfl (fun w hw => (by have hS := hS1.bel hw; exact opW.loadV rfl (Ld.pt1 ((hc.l.bel hS.old).isPt hkl) 33 (Lookup.at_reads _)) ⟨rfl, rfl⟩)) ?_
     refine ML.one rfl rfl rfl (opW.call (twinBytes_ok _ _ (c.lks[k].2.1) ((hi2).bel hS.old) (by omega)) rfl ?_)
     rintro u67 w ⟨fa, hua, hca, hna, hw⟩; replace hT := hT.newOwn hw hna.1 hna.2; obtain ⟨sa, rfl⟩ : ∃ s : SlV, u67 = s.v := (by rw [hua]; exact (SlR.head (hT.sl (v := fa) (xs := c.lks[k].2.1 ++ [165, 165, 165]) (by repeat constructor)) (by omega) (by omega)).asV)
     refine ⟨hT.old, ?_⟩
     have hS := hS1.merge hT
     try simp only [List.cons_append, List.nil_append] at hS
     refine ML.one rfl rfl rfl (opW.call (twinBytes_ok _ _ (c.lks[k].2.2) ((hi3).bel hS.old) (by omega)) rfl ?_)
     rintro u74 w ⟨fd, hud, hcd, hnd, hw⟩; replace hT := hT.newOwn hw hnd.1 hnd.2; obtain ⟨sd, rfl⟩ : ∃ s : SlV, u74 = s.v := (by rw [hud]; exact (SlR.head (hT.sl (v := fd) (xs := c.lks[k].2.2 ++ [165, 165, 165]) (by repeat constructor)) (by omega) (by omega)).asV)
     refine ⟨hT.old, ?_⟩
     have hS := hS1.merge hT
     try simp only [List.cons_append, List.nil_append] at hS
     refine ML.look rfl rfl rfl (fun w hw => (by have hS := hS1.bel hw; exact opW.buildE (r := ((⟨lks[k].table, sa, sd⟩ : Lookup) : Lookup)) (ps := Lookup.parts ((⟨lks[k].table, sa, sd⟩ : Lookup) : Lookup)) (Lookup.enc_eq _) (by first | (simp only [sysK, az, markK, enc_vset, enc_vz, Account.enc_eq, Account.parts, Role.enc_eq, Role.parts, Instr.enc_eq, Instr.parts, Ask.enc_eq, Ask.parts, Cut.enc_eq, Cut.parts, PairS.enc_eq, PairS.parts, RAsk.enc_eq, RAsk.parts, Header.enc_eq, Header.parts, Lookup.enc_eq, Lookup.parts, Message.enc_eq, Message.parts, Tx.enc_eq, Tx.parts, Budget.enc_eq, Budget.parts, Ready.enc_eq, Ready.parts, Holding.enc_eq, Holding.parts, Outcome.enc_eq, Outcome.parts, Running.enc_eq, Running.parts, StS.enc_eq, StS.parts]; rfl) | rfl) (by (repeat' (first | exact trivial | refine And.intro ?_ ?_)) <;> first | rfl | exact Enc.size_eq _ | (simp; done)) ⟨rfl, rfl⟩)) ?_
     refine ML.one rfl rfl rfl (opW.buildSl hT (([(⟨lks[k].table, sa, sd⟩ : Lookup)] : List Lookup)) [.agg (Enc.enc (⟨lks[k].table, sa, sd⟩ : Lookup))] rfl rfl rfl rfl (by decide) ?_)
     intro b76 w hw hT
     refine ⟨hT.old, ?_⟩
     have hS := hS1.merge hT
     try simp only [List.cons_append, List.nil_append] at hS
     refine ML.put1 rfl rfl rfl rfl (opW.appendOwn (α := Lookup) rfl hS rfl (by repeat constructor) (hS.sl (by repeat constructor)) (by simp only [List.length_cons, List.length_nil]; omega) (by simp only [maxLen, List.length_cons, List.length_nil]; omega) ?_)
     intro v77 w hS; replace hS := hS _ (by repeat constructor)
     obtain ⟨lw, rfl⟩ := (hS.sl (v := v77) (xs := List.zipWith tL (lks.take k) ll ++ [(⟨lks[k].table, sa, sd⟩ : Lookup)]) (by repeat constructor)).asV
     refine ML.put1 rfl rfl rfl rfl (opW.fieldAddrB rfl ?_)
     refine ML.put0 rfl rfl rfl (opW.storeF (v := lw.v) (sz := 1) (cs' := Enc.enc (⟨m.v0, m.header, kc, m.recent, iv, lw⟩ : Message)) hS rfl rfl (by repeat constructor) rfl (by rw [Enc.size_eq]; decide) (Enc.one (α := SlV) lw) (Message.set_lookups (⟨m.v0, m.header, kc, m.recent, iv, lv⟩ : Message) lw) ?_)
     intro w hS; replace hS := hS _ (by repeat constructor)
     refine ML.nil ?_
     refine blockQ_n ?_
     refine thenQ_n (hK15 _ _ ?_)
     refine WC.region ?_
     refine WL.op rfl (opW.moveI rfl ?_)
     refine WL.op rfl (opW.add rfl rfl (wrap_i64 (by omega)) ?_)
     refine WL.op rfl (opW.assignI rfl ?_)
     refine WL.nil ?_
     refine thenQ_n ?_
     have hadd := St.tpAdd (p := (⟨fa, sa, c.lks[k].2.1⟩, ⟨fd, sd, c.lks[k].2.2⟩)) (((hS.pick (e := tpE ll) (by repeat constructor)).pick (e := ownE fa 5 (c.lks[k].2.1 ++ [165, 165, 165])) (by repeat constructor)).pick (e := ownE fd 5 (c.lks[k].2.2 ++ [165, 165, 165])) (by repeat constructor))
     have htl' := htl.snoc hkc (p := (⟨fa, sa, c.lks[k].2.1⟩, ⟨fd, sd, c.lks[k].2.2⟩)) ⟨hua, hca⟩ ⟨hud, hcd⟩ rfl rfl
     refine ⟨lks.length - (k + 1), by omega, k + 1, ll ++ [(⟨fa, sa, c.lks[k].2.1⟩, ⟨fd, sd, c.lks[k].2.2⟩)], lw, ⟨rfl, rfl, rfl, congrArg (Value.int .i64) (by omega), trivial⟩, ?_, htl', by omega, rfl⟩
     rw [zip_snoc _ hkl hlk _ (show _ = (⟨lks[k].table, sa, sd⟩ : Lookup) from rfl)]
     exact hadd.sub (by repeat with_reducible first | exact su1 _ | exact su2 _ | refine su3 ?_ | refine su4 ?_)
    ·
     have hr1 := hc1
     try simp only [sq1,sq2,sq3,sq4,sq5,sq6,sq7,sq8,sq9,sq0] at hc1
     obtain rfl : k = lks.length := by omega
     rw [List.take_of_length_le (by omega)] at htl
     rw [List.take_length] at hS
     refine WC.exit ?_
     refine thenQ_e ?_
     refine thenQ_e ?_
     refine blockQ_hit ?_
     refine thenQ_n (hK11 _ _ ?_)
     refine WC.seq (fun K16 hK16 => ?_)
     refine WC.region ?_
     refine WL.op rfl (opW.loadV rfl (hS.ldA (cs := Enc.enc (⟨m.v0, m.header, kc, m.recent, iv, lv⟩ : Message)) (by repeat constructor) (Enc.size_eq _)) ?_)
     refine WL.op0 (opW.storeE hS rfl rfl (by repeat constructor) (by first | rfl | exact Enc.size_eq _) ?_)
     intro w hS; replace hS := hS _ (by repeat constructor)
     refine WL.nil ?_
     refine thenQ_n (hK16 _ _ ?_)
     refine WC.ret ?_
     refine bodyQ_ret (.cell (hS.ldA (cs := Enc.enc (⟨m.v0, m.header, kc, m.recent, iv, lv⟩ : Message)) (by repeat constructor) (Enc.size_eq _)) .nil) ?_
     exact ⟨kf, kc, iv, lv, li, ll, rfl, huk, hcf, htw, htl, hS.sub (by repeat with_reducible first | exact su1 _ | exact su2 _ | refine su3 ?_ | refine su4 ?_)⟩

end Go.Fer
