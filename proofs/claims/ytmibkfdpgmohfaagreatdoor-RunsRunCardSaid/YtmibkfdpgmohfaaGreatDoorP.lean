/- LeftMessage -/
import Derived.Test.YtmibkfdpgmohfaaGreatDoorO
import Derived.Test.YtmibkfdpgmohfaaGreatDoorN
set_option linter.all false
namespace Go.Fer
open Go Go.Proofs Go.RowKit

theorem leftMsg_ok (w0 : World) (m : Message) (c : MC) (ins : List Instr) (lks : List Lookup) (kf : Value) (kc iv lv : SlV) (li ll : List (BT × BT)) (hc : IsM w0 m c ins lks) (ht : TwR w0 m c ins lks kf kc iv lv li ll) : Ret Tryz.prog 66 #[.agg (Enc.enc (⟨m.v0, m.header, kc, m.recent, iv, lv⟩ : Message)), .agg (Enc.enc m)] w0 (fun r w' => r = .bool true ∧ Bel w0 w') := by
 refine Ret.enter (args := [.agg (Enc.enc (⟨m.v0, m.header, kc, m.recent, iv, lv⟩ : Message)), .agg (Enc.enc m)]) Tryz.func66 rfl Tryz.ntmps66 Tryz.results66 rfl ?_
 have hS := St.start w0
 refine WC.seq (fun K1 hK1 => ?_)
 refine WC.region ?_
 refine WL.op rfl (opW.boxA hS rfl ?_)
 intro b2 w _ hS
 refine WL.op rfl (opW.boxA hS rfl ?_)
 intro b3 w _ hS
 refine WL.op rfl (opW.assignB rfl ?_)
 refine WL.nil ?_
 refine thenQ_n (hK1 _ _ ?_)
 refine WC.seq (fun K2 hK2 => ?_)
 refine WC.seq (fun K3 hK3 => ?_)
 refine WC.region ?_
 refine WL.op rfl (opW.loadV rfl (hS.ldA (cs := Enc.enc (⟨m.v0, m.header, kc, m.recent, iv, lv⟩ : Message)) (by repeat constructor) (Enc.size_eq _)) ?_)
 refine WL.op rfl (opW.loadV rfl (hS.ldA (cs := Enc.enc m) (by repeat constructor) (Enc.size_eq _)) ?_)
 refine WL.op rfl (opW.call (sameMsg_ok _ (⟨m.v0, m.header, kc, m.recent, iv, lv⟩ : Message) m c c _ ins _ lks (((ht.isM hc)).bel hS.old) (hc.bel hS.old)) rfl ?_)
 rintro _ w ⟨rfl, hw⟩; replace hS := hS.bel hw
 rw [decide_eq_true (rfl : c = c)]
 refine WL.op rfl (opW.not rfl ?_)
 refine WL.op rfl (opW.moveB rfl ?_)
 refine WL.gT 11 rfl rfl rfl (WL.op rfl (opW.fieldAddrB rfl ?_))
 refine WL.gT 11 rfl rfl rfl (WL.op rfl (opW.loadV rfl (hS.ld1 (by repeat constructor) ((Message.at_keys (⟨m.v0, m.header, kc, m.recent, iv, lv⟩ : Message)).trans (congrArg some ht.hk))) ?_))
 refine WL.gT 11 rfl rfl rfl (WL.op rfl (opW.fieldAddrB rfl ?_))
 refine WL.gT 11 rfl rfl rfl (WL.op rfl (opW.loadV rfl (hS.ld1 (by repeat constructor) (Message.at_keys m)) ?_))
 refine WL.gT 11 rfl rfl rfl (WL.op rfl (opW.call (leftKeys_ok _ kf _ c.keys ht.hcf (ht.k.bel hS.old) (hc.k.bel hS.old)) rfl ?_))
 rintro _ w ⟨rfl, hw⟩; replace hS := hS.bel hw
 refine WL.gT 11 rfl rfl rfl (WL.op rfl (opW.not rfl ?_))
 refine WL.op rfl (opW.pickT rfl rfl ?_)
 refine WL.nil ?_
 refine thenQ_n (hK3 _ _ ?_)
 refine WC.cond _ rfl (fun hc0 => ?_) (fun hc0 => ?_)
 ·
  have hr0 := hc0
  try simp only [sq1,sq2,sq3,sq4,sq5,sq6,sq7,sq8,sq9,sq0] at hc0
  simp at hr0
 ·
  have hr0 := hc0
  try simp only [sq1,sq2,sq3,sq4,sq5,sq6,sq7,sq8,sq9,sq0] at hc0
  have hle1 := hc.i.le
  have hle2 := hc.l.le
  simp only [maxLen] at hle1 hle2
  have hii := hc.ii.1; have hll := hc.ll.1; have hti := ht.tw.1; have htl := ht.tl.1
  refine WC.skip ?_
  refine thenQ_n (hK2 _ _ ?_)
  refine WC.seq (fun K4 hK4 => ?_)
  refine WC.seq (fun K5 hK5 => ?_)
  refine WC.region ?_
  refine WL.op rfl (opW.assignI rfl ?_)
  refine WL.nil ?_
  refine thenQ_n (hK5 _ _ ?_)
  refine WC.block ?_
  refine WC.loop (fun q f w => ∃ k : Nat, Fits [(2, .pointer (some ⟨b2, 0, none⟩)), (3, .pointer (some ⟨b3, 0, none⟩)), (5, .int .i64 (k : Int))] f ∧ St w0 [blkE b3 (Enc.enc m) 32, blkE b2 (Enc.enc (⟨m.v0, m.header, kc, m.recent, iv, lv⟩ : Message)) 32] w ∧ k ≤ ins.length ∧ q = ins.length - k) (ins.length) ?_ ?_
  ·
   exact ⟨0, ⟨rfl, rfl, rfl, trivial⟩, hS, Nat.zero_le _, rfl⟩
  ·
   rintro q f w ⟨k, hfit, hS, hk0, hm⟩
   refine WC.fits _ hfit (fun g => ?_)
   clear hfit
   refine WC.seq (fun K6 hK6 => ?_)
   refine WC.seq (fun K7 hK7 => ?_)
   refine WC.region ?_
   refine WL.op rfl (opW.moveI rfl ?_)
   refine WL.op rfl (opW.fieldAddrB rfl ?_)
   refine WL.op rfl (opW.loadV rfl (hS.ld1 (by repeat constructor) (Message.at_instrs m)) ?_)
   refine WL.op rfl (opW.lenV rfl ((hc.i.bel hS.old)) ?_)
   refine WL.op rfl (opW.lss rfl rfl ?_)
   refine WL.nil ?_
   refine thenQ_n (hK7 _ _ ?_)
   refine WC.cond _ rfl (fun hc1 => ?_) (fun hc1 => ?_)
   ·
    have hr1 := hc1
    try simp only [sq1,sq2,sq3,sq4,sq5,sq6,sq7,sq8,sq9,sq0] at hc1
    have hk1 : k < ins.length := by omega
    have hkc : k < c.ins.length := by omega
    have hkl : k < li.length := by omega
    have hkz : k < (List.zipWith tI ins li).length := by rw [tI_len]; omega
    have pB := hc.ii.2 k hk1 hkc
    obtain ⟨o1, o2, o3, o4⟩ := ht.tw.2 k hkl hkc
    obtain ⟨r1, r2⟩ := ht.ib li[k] (List.getElem_mem _)
    rw [o3] at r1
    rw [o4] at r2
    have a1 : (Enc.enc (List.zipWith tI ins li)[k])[1]? = some (cutV li[k].1.full 0 c.ins[k].2.1.length (c.ins[k].2.1.length + 3) (Enc.sz UInt8)) := by
     rw [List.getElem_zipWith]
     refine (Instr.at_accounts _).trans (congrArg some ?_)
     have := o1.1
     rw [o3] at this
     exact this
    have a2 : (Enc.enc (List.zipWith tI ins li)[k])[2]? = some (cutV li[k].2.full 0 c.ins[k].2.2.length (c.ins[k].2.2.length + 3) (Enc.sz UInt8)) := by
     rw [List.getElem_zipWith]
     refine (Instr.at_data _).trans (congrArg some ?_)
     have := o2.1
     rw [o4] at this
     exact this
    have c1 : capV li[k].1.full = c.ins[k].2.1.length + 3 := by rw [← o3]; exact o1.2
    have c2 : capV li[k].2.full = c.ins[k].2.2.length + 3 := by rw [← o4]; exact o2.2
    refine WC.skip ?_
    refine thenQ_n (hK6 _ _ ?_)
    refine WC.seq (fun K8 hK8 => ?_)
    refine WC.block ?_
    refine WC.seq (fun K9 hK9 => ?_)
    refine WC.draw 30 (.look 0 (.look 1 (.look 2 (.look 3 (.look 4 (.look 5 (.look 6 (.look 7 (.look 8 (.look 9 (.look 10 (.look 11 (.one 12 (.look 13 (.look 14 (.look 15 (.look 16 (.look 17 (.look 18 (.look 19 (.look 20 (.look 21 (.look 22 (.look 23 (.look 24 (.look 25 (.look 26 (.one 27 (.look 28 (.look 29 .nil)))))))))))))))))))))))))))))) (by kernel_rfl) (fun _ _ _ h => h) (fun w1 hw1 => ?_)
    replace hS := hS.bel hw1
    have hS1 := hS
    have hT := St.start w1
    refine ML.look rfl rfl rfl (fun w hw => (by have hS := hS1.bel hw; exact opW.fieldAddrB rfl ⟨rfl, rfl⟩)) ?_
    refine ML.look rfl rfl rfl (fun w hw => (by have hS := hS1.bel hw; exact opW.loadV rfl (hS.ld1 (by repeat constructor) (Message.at_instrs (⟨m.v0, m.header, kc, m.recent, iv, lv⟩ : Message))) ⟨rfl, rfl⟩)) ?_
    refine ML.look rfl rfl rfl (fun w hw => (by have hS := hS1.bel hw; exact opW.moveI rfl ⟨rfl, rfl⟩)) ?_
    refine ML.look rfl rfl rfl (fun w hw => (by have hS := hS1.bel hw; exact opW.idxV rfl ((ht.i.bel hS.old)) rfl (by omega) ⟨rfl, rfl⟩)) ?_
    refine ML.look rfl rfl rfl (fun w hw => (by have hS := hS1.bel hw; exact opW.fieldAddr rfl ((ht.i.bel hS.old).isP hkz) ⟨rfl, rfl⟩)) ?_
    refine ML.look rfl rfl rfl (fun w hw => (by have hS := hS1.bel hw; exact opW.loadV rfl (Ld.pt1 ((ht.i.bel hS.old).isPt hkz) 1 a1) ⟨rfl, rfl⟩)) ?_
    refine ML.look rfl rfl rfl (fun w hw => (by have hS := hS1.bel hw; exact opW.fieldAddrB rfl ⟨rfl, rfl⟩)) ?_
    refine ML.look rfl rfl rfl (fun w hw => (by have hS := hS1.bel hw; exact opW.loadV rfl (hS.ld1 (by repeat constructor) (Message.at_instrs m)) ⟨rfl, rfl⟩)) ?_
    refine ML.look rfl rfl rfl (fun w hw => (by have hS := hS1.bel hw; exact opW.moveI rfl ⟨rfl, rfl⟩)) ?_
    refine ML.look rfl rfl rfl (fun w hw => (by have hS := hS1.bel hw; exact opW.idxV rfl ((hc.i.bel hS.old)) rfl (by omega) ⟨rfl, rfl⟩)) ?_
    refine ML.look rfl rfl rfl (fun w hw => (by have hS := hS1.bel hw; exact opW.fieldAddr rfl ((hc.i.bel hS.old).isP hk1) ⟨rfl, rfl⟩)) ?_
    refine ML.look rfl rfl rfl (fun w hw => (by have hS := hS1.bel hw; exact opW.loadV rfl (Ld.pt1 ((hc.i.bel hS.old).isPt hk1) 1 (Instr.at_accounts _)) ⟨rfl, rfl⟩)) ?_
    refine ML.one rfl rfl rfl (opW.call (leftBytes_ok _ li[k].1.full _ c.ins[k].2.1 c1 (r1.bel hS.old) (pB.2.1.bel hS.old)) rfl ?_)
    rintro _ w ⟨rfl, hw⟩; replace hT := hT.bel hw
    refine ⟨hT.old, ?_⟩
    have hS := hS1.merge hT
    try simp only [List.cons_append, List.nil_append] at hS
    refine ML.look rfl rfl rfl (fun w hw => (by have hS := hS1.bel hw; exact opW.not rfl ⟨rfl, rfl⟩)) ?_
    refine ML.look rfl rfl rfl (fun w hw => (by have hS := hS1.bel hw; exact opW.moveB rfl ⟨rfl, rfl⟩)) ?_
    refine ML.lookT 40 rfl rfl rfl rfl rfl rfl (fun w hw => (by have hS := hS1.bel hw; exact opW.fieldAddrB rfl ⟨rfl, rfl⟩)) ?_
    refine ML.lookT 40 rfl rfl rfl rfl rfl rfl (fun w hw => (by have hS := hS1.bel hw; exact opW.loadV rfl (hS.ld1 (by repeat constructor) (Message.at_instrs (⟨m.v0, m.header, kc, m.recent, iv, lv⟩ : Message))) ⟨rfl, rfl⟩)) ?_
    refine ML.lookT 40 rfl rfl rfl rfl rfl rfl (fun w hw => (by have hS := hS1.bel hw; exact opW.moveI rfl ⟨rfl, rfl⟩)) ?_
    refine ML.lookT 40 rfl rfl rfl rfl rfl rfl (fun w hw => (by have hS := hS1.bel hw; exact opW.idxV rfl ((ht.i.bel hS.old)) rfl (by omega) ⟨rfl, rfl⟩)) ?_
    refine ML.lookT 40 rfl rfl rfl rfl rfl rfl (fun w hw => (by have hS := hS1.bel hw; exact opW.fieldAddr rfl ((ht.i.bel hS.old).isP hkz) ⟨rfl, rfl⟩)) ?_
    refine ML.lookT 40 rfl rfl rfl rfl rfl rfl (fun w hw => (by have hS := hS1.bel hw; exact opW.loadV rfl (Ld.pt1 ((ht.i.bel hS.old).isPt hkz) 2 a2) ⟨rfl, rfl⟩)) ?_
    refine ML.lookT 40 rfl rfl rfl rfl rfl rfl (fun w hw => (by have hS := hS1.bel hw; exact opW.fieldAddrB rfl ⟨rfl, rfl⟩)) ?_
    refine ML.lookT 40 rfl rfl rfl rfl rfl rfl (fun w hw => (by have hS := hS1.bel hw; exact opW.loadV rfl (hS.ld1 (by repeat constructor) (Message.at_instrs m)) ⟨rfl, rfl⟩)) ?_
    refine ML.lookT 40 rfl rfl rfl rfl rfl rfl (fun w hw => (by have hS := hS1.bel hw; exact opW.moveI rfl ⟨rfl, rfl⟩)) ?_
    refine ML.lookT 40 rfl rfl rfl rfl rfl rfl (fun w hw => (by have hS := hS1.bel hw; exact opW.idxV rfl ((hc.i.bel hS.old)) rfl (by omega) ⟨rfl, rfl⟩)) ?_
    refine ML.lookT 40 rfl rfl rfl rfl rfl rfl (fun w hw => (by have hS := hS1.bel hw; exact opW.fieldAddr rfl ((hc.i.bel hS.old).isP hk1) ⟨rfl, rfl⟩)) ?_
    refine ML.lookT 40 rfl rfl rfl rfl rfl rfl (fun w hw => (by have hS := hS1.bel hw; exact opW.loadV rfl (Ld.pt1 ((hc.i.bel hS.old).isPt hk1) 2 (Instr.at_data _)) ⟨rfl, rfl⟩)) ?_
    refine ML.oneT 40 rfl rfl rfl rfl rfl rfl (opW.call (leftBytes_ok _ li[k].2.full _ c.ins[k].2.2 c2 (r2.bel hS.old) (pB.2.2.bel hS.old)) rfl ?_)
    rintro _ w ⟨rfl, hw⟩; replace hT := hT.bel hw
    refine ⟨hT.old, ?_⟩
    have hS := hS1.merge hT
    try simp only [List.cons_append, List.nil_append] at hS
    refine ML.lookT 40 rfl rfl rfl rfl rfl rfl (fun w hw => (by have hS := hS1.bel hw; exact opW.not rfl ⟨rfl, rfl⟩)) ?_
    refine ML.look rfl rfl rfl (fun w hw => (by have hS := hS1.bel hw; exact opW.pickT rfl rfl ⟨rfl, rfl⟩)) ?_
    refine ML.nil ?_
    refine thenQ_n (hK9 _ _ ?_)
    refine WC.cond _ rfl (fun hc2 => ?_) (fun hc2 => ?_)
    ·
     have hr2 := hc2
     try simp only [sq1,sq2,sq3,sq4,sq5,sq6,sq7,sq8,sq9,sq0] at hc2
     simp at hr2
    ·
     have hr2 := hc2
     try simp only [sq1,sq2,sq3,sq4,sq5,sq6,sq7,sq8,sq9,sq0] at hc2
     refine WC.skip ?_
     refine blockQ_n ?_
     refine thenQ_n (hK8 _ _ ?_)
     refine WC.region ?_
     refine WL.op rfl (opW.moveI rfl ?_)
     refine WL.op rfl (opW.add rfl rfl (wrap_i64 (by omega)) ?_)
     refine WL.op rfl (opW.assignI rfl ?_)
     refine WL.nil ?_
     refine thenQ_n ?_
     exact ⟨ins.length - (k + 1), by omega, k + 1, ⟨rfl, rfl, congrArg (Value.int .i64) (by omega), trivial⟩, hS, by omega, rfl⟩
   ·
    have hr1 := hc1
    try simp only [sq1,sq2,sq3,sq4,sq5,sq6,sq7,sq8,sq9,sq0] at hc1
    refine WC.exit ?_
    refine thenQ_e ?_
    refine thenQ_e ?_
    refine blockQ_hit ?_
    refine thenQ_n (hK4 _ _ ?_)
    refine WC.seq (fun K10 hK10 => ?_)
    refine WC.seq (fun K11 hK11 => ?_)
    refine WC.region ?_
    refine WL.op rfl (opW.assignI rfl ?_)
    refine WL.nil ?_
    refine thenQ_n (hK11 _ _ ?_)
    refine WC.block ?_
    refine WC.loop (fun q f w => ∃ k : Nat, Fits [(2, .pointer (some ⟨b2, 0, none⟩)), (3, .pointer (some ⟨b3, 0, none⟩)), (6, .int .i64 (k : Int))] f ∧ St w0 [blkE b3 (Enc.enc m) 32, blkE b2 (Enc.enc (⟨m.v0, m.header, kc, m.recent, iv, lv⟩ : Message)) 32] w ∧ k ≤ lks.length ∧ q = lks.length - k) (lks.length) ?_ ?_
    ·
     exact ⟨0, ⟨rfl, rfl, rfl, trivial⟩, hS, Nat.zero_le _, rfl⟩
    ·
     rintro q f w ⟨k, hfit, hS, hk0, hm⟩
     refine WC.fits _ hfit (fun g => ?_)
     clear hfit
     refine WC.seq (fun K12 hK12 => ?_)
     refine WC.seq (fun K13 hK13 => ?_)
     refine WC.region ?_
     refine WL.op rfl (opW.moveI rfl ?_)
     refine WL.op rfl (opW.fieldAddrB rfl ?_)
     refine WL.op rfl (opW.loadV rfl (hS.ld1 (by repeat constructor) (Message.at_lookups m)) ?_)
     refine WL.op rfl (opW.lenV rfl ((hc.l.bel hS.old)) ?_)
     refine WL.op rfl (opW.lss rfl rfl ?_)
     refine WL.nil ?_
     refine thenQ_n (hK13 _ _ ?_)
     refine WC.cond _ rfl (fun hc3 => ?_) (fun hc3 => ?_)
     ·
      have hr3 := hc3
      try simp only [sq1,sq2,sq3,sq4,sq5,sq6,sq7,sq8,sq9,sq0] at hc3
      have hk1 : k < lks.length := by omega
      have hkc : k < c.lks.length := by omega
      have hkl : k < ll.length := by omega
      have hkz : k < (List.zipWith tL lks ll).length := by rw [tL_len]; omega
      have pB := hc.ll.2 k hk1 hkc
      obtain ⟨o1, o2, o3, o4⟩ := ht.tl.2 k hkl hkc
      obtain ⟨r1, r2⟩ := ht.lb ll[k] (List.getElem_mem _)
      rw [o3] at r1
      rw [o4] at r2
      have a1 : (Enc.enc (List.zipWith tL lks ll)[k])[32]? = some (cutV ll[k].1.full 0 c.lks[k].2.1.length (c.lks[k].2.1.length + 3) (Enc.sz UInt8)) := by
       rw [List.getElem_zipWith]
       refine (Lookup.at_writes _).trans (congrArg some ?_)
       have := o1.1
       rw [o3] at this
       exact this
      have a2 : (Enc.enc (List.zipWith tL lks ll)[k])[33]? = some (cutV ll[k].2.full 0 c.lks[k].2.2.length (c.lks[k].2.2.length + 3) (Enc.sz UInt8)) := by
       rw [List.getElem_zipWith]
       refine (Lookup.at_reads _).trans (congrArg some ?_)
       have := o2.1
       rw [o4] at this
       exact this
      have c1 : capV ll[k].1.full = c.lks[k].2.1.length + 3 := by rw [← o3]; exact o1.2
      have c2 : capV ll[k].2.full = c.lks[k].2.2.length + 3 := by rw [← o4]; exact o2.2
      refine WC.skip ?_
      refine thenQ_n (hK12 _ _ ?_)
      refine WC.seq (fun K14 hK14 => ?_)
      refine WC.block ?_
      refine WC.seq (fun K15 hK15 => ?_)
      refine WC.draw 30 (.look 0 (.look 1 (.look 2 (.look 3 (.look 4 (.look 5 (.look 6 (.look 7 (.look 8 (.look 9 (.look 10 (.look 11 (.one 12 (.look 13 (.look 14 (.look 15 (.look 16 (.look 17 (.look 18 (.look 19 (.look 20 (.look 21 (.look 22 (.look 23 (.look 24 (.look 25 (.look 26 (.one 27 (.look 28 (.look 29 .nil)))))))))))))))))))))))))))))) (by kernel_rfl) (fun _ _ _ h => h) (fun w1 hw1 => ?_)
      replace hS := hS.bel hw1
      have hS1 := hS
      have hT := St.start w1
      refine ML.look rfl rfl rfl (fun w hw => (by have hS := hS1.bel hw; exact opW.fieldAddrB rfl ⟨rfl, rfl⟩)) ?_
      refine ML.look rfl rfl rfl (fun w hw => (by have hS := hS1.bel hw; exact opW.loadV rfl (hS.ld1 (by repeat constructor) (Message.at_lookups (⟨m.v0, m.header, kc, m.recent, iv, lv⟩ : Message))) ⟨rfl, rfl⟩)) ?_
      refine ML.look rfl rfl rfl (fun w hw => (by have hS := hS1.bel hw; exact opW.moveI rfl ⟨rfl, rfl⟩)) ?_
      refine ML.look rfl rfl rfl (fun w hw => (by have hS := hS1.bel hw; exact opW.idxV rfl ((ht.l.bel hS.old)) rfl (by omega) ⟨rfl, rfl⟩)) ?_
      refine ML.look rfl rfl rfl (fun w hw => (by have hS := hS1.bel hw; exact opW.fieldAddr rfl ((ht.l.bel hS.old).isP hkz) ⟨rfl, rfl⟩)) ?_
      refine ML.look rfl rfl rfl (fun w hw => (by have hS := hS1.bel hw; exact opW.loadV rfl (Ld.pt1 ((ht.l.bel hS.old).isPt hkz) 32 a1) ⟨rfl, rfl⟩)) ?_
      refine ML.look rfl rfl rfl (fun w hw => (by have hS := hS1.bel hw; exact opW.fieldAddrB rfl ⟨rfl, rfl⟩)) ?_
      refine ML.look rfl rfl rfl (fun w hw => (by have hS := hS1.bel hw; exact opW.loadV rfl (hS.ld1 (by repeat constructor) (Message.at_lookups m)) ⟨rfl, rfl⟩)) ?_
      refine ML.look rfl rfl rfl (fun w hw => (by have hS := hS1.bel hw; exact opW.moveI rfl ⟨rfl, rfl⟩)) ?_
      refine ML.look rfl rfl rfl (fun w hw => (by have hS := hS1.bel hw; exact opW.idxV rfl ((hc.l.bel hS.old)) rfl (by omega) ⟨rfl, rfl⟩)) ?_
      refine ML.look rfl rfl rfl (fun w hw => (by have hS := hS1.bel hw; exact opW.fieldAddr rfl ((hc.l.bel hS.old).isP hk1) ⟨rfl, rfl⟩)) ?_
      refine ML.look rfl rfl rfl (fun w hw => (by have hS := hS1.bel hw; exact opW.loadV rfl (Ld.pt1 ((hc.l.bel hS.old).isPt hk1) 32 (Lookup.at_writes _)) ⟨rfl, rfl⟩)) ?_
      refine ML.one rfl rfl rfl (opW.call (leftBytes_ok _ ll[k].1.full _ c.lks[k].2.1 c1 (r1.bel hS.old) (pB.2.1.bel hS.old)) rfl ?_)
      rintro _ w ⟨rfl, hw⟩; replace hT := hT.bel hw
      refine ⟨hT.old, ?_⟩
      have hS := hS1.merge hT
      try simp only [List.cons_append, List.nil_append] at hS
      refine ML.look rfl rfl rfl (fun w hw => (by have hS := hS1.bel hw; exact opW.not rfl ⟨rfl, rfl⟩)) ?_
      refine ML.look rfl rfl rfl (fun w hw => (by have hS := hS1.bel hw; exact opW.moveB rfl ⟨rfl, rfl⟩)) ?_
      refine ML.lookT 77 rfl rfl rfl rfl rfl rfl (fun w hw => (by have hS := hS1.bel hw; exact opW.fieldAddrB rfl ⟨rfl, rfl⟩)) ?_
      refine ML.lookT 77 rfl rfl rfl rfl rfl rfl (fun w hw => (by have hS := hS1.bel hw; exact opW.loadV rfl (hS.ld1 (by repeat constructor) (Message.at_lookups (⟨m.v0, m.header, kc, m.recent, iv, lv⟩ : Message))) ⟨rfl, rfl⟩)) ?_
      refine ML.lookT 77 rfl rfl rfl rfl rfl rfl (fun w hw => (by have hS := hS1.bel hw; exact opW.moveI rfl ⟨rfl, rfl⟩)) ?_
      refine ML.lookT 77 rfl rfl rfl rfl rfl rfl (fun w hw => (by have hS := hS1.bel hw; exact opW.idxV rfl ((ht.l.bel hS.old)) rfl (by omega) ⟨rfl, rfl⟩)) ?_
      refine ML.lookT 77 rfl rfl rfl rfl rfl rfl (fun w hw => (by have hS := hS1.bel hw; exact opW.fieldAddr rfl ((ht.l.bel hS.old).isP hkz) ⟨rfl, rfl⟩)) ?_
      refine ML.lookT 77 rfl rfl rfl rfl rfl rfl (fun w hw => (by have hS := hS1.bel hw; exact opW.loadV rfl (Ld.pt1 ((ht.l.bel hS.old).isPt hkz) 33 a2) ⟨rfl, rfl⟩)) ?_
      refine ML.lookT 77 rfl rfl rfl rfl rfl rfl (fun w hw => (by have hS := hS1.bel hw; exact opW.fieldAddrB rfl ⟨rfl, rfl⟩)) ?_
      refine ML.lookT 77 rfl rfl rfl rfl rfl rfl (fun w hw => (by have hS := hS1.bel hw; exact opW.loadV rfl (hS.ld1 (by repeat constructor) (Message.at_lookups m)) ⟨rfl, rfl⟩)) ?_
      refine ML.lookT 77 rfl rfl rfl rfl rfl rfl (fun w hw => (by have hS := hS1.bel hw; exact opW.moveI rfl ⟨rfl, rfl⟩)) ?_
      refine ML.lookT 77 rfl rfl rfl rfl rfl rfl (fun w hw => (by have hS := hS1.bel hw; exact opW.idxV rfl ((hc.l.bel hS.old)) rfl (by omega) ⟨rfl, rfl⟩)) ?_
      refine ML.lookT 77 rfl rfl rfl rfl rfl rfl (fun w hw => (by have hS := hS1.bel hw; exact opW.fieldAddr rfl ((hc.l.bel hS.old).isP hk1) ⟨rfl, rfl⟩)) ?_
      refine ML.lookT 77 rfl rfl rfl rfl rfl rfl (fun w hw => (by have hS := hS1.bel hw; exact opW.loadV rfl (Ld.pt1 ((hc.l.bel hS.old).isPt hk1) 33 (Lookup.at_reads _)) ⟨rfl, rfl⟩)) ?_
      refine ML.oneT 77 rfl rfl rfl rfl rfl rfl (opW.call (leftBytes_ok _ ll[k].2.full _ c.lks[k].2.2 c2 (r2.bel hS.old) (pB.2.2.bel hS.old)) rfl ?_)
      rintro _ w ⟨rfl, hw⟩; replace hT := hT.bel hw
      refine ⟨hT.old, ?_⟩
      have hS := hS1.merge hT
      try simp only [List.cons_append, List.nil_append] at hS
      refine ML.lookT 77 rfl rfl rfl rfl rfl rfl (fun w hw => (by have hS := hS1.bel hw; exact opW.not rfl ⟨rfl, rfl⟩)) ?_
      refine ML.look rfl rfl rfl (fun w hw => (by have hS := hS1.bel hw; exact opW.pickT rfl rfl ⟨rfl, rfl⟩)) ?_
      refine ML.nil ?_
      refine thenQ_n (hK15 _ _ ?_)
      refine WC.cond _ rfl (fun hc4 => ?_) (fun hc4 => ?_)
      ·
       have hr4 := hc4
       try simp only [sq1,sq2,sq3,sq4,sq5,sq6,sq7,sq8,sq9,sq0] at hc4
       simp at hr4
      ·
       have hr4 := hc4
       try simp only [sq1,sq2,sq3,sq4,sq5,sq6,sq7,sq8,sq9,sq0] at hc4
       refine WC.skip ?_
       refine blockQ_n ?_
       refine thenQ_n (hK14 _ _ ?_)
       refine WC.region ?_
       refine WL.op rfl (opW.moveI rfl ?_)
       refine WL.op rfl (opW.add rfl rfl (wrap_i64 (by omega)) ?_)
       refine WL.op rfl (opW.assignI rfl ?_)
       refine WL.nil ?_
       refine thenQ_n ?_
       exact ⟨lks.length - (k + 1), by omega, k + 1, ⟨rfl, rfl, congrArg (Value.int .i64) (by omega), trivial⟩, hS, by omega, rfl⟩
     ·
      have hr3 := hc3
      try simp only [sq1,sq2,sq3,sq4,sq5,sq6,sq7,sq8,sq9,sq0] at hc3
      refine WC.exit ?_
      refine thenQ_e ?_
      refine thenQ_e ?_
      refine blockQ_hit ?_
      refine thenQ_n (hK10 _ _ ?_)
      refine WC.seq (fun K16 hK16 => ?_)
      refine WC.region ?_
      refine WL.op rfl (opW.assignB rfl ?_)
      refine WL.nil ?_
      refine thenQ_n (hK16 _ _ ?_)
      refine WC.ret ?_
      refine bodyQ_ret (.tmpB rfl .nil) ?_
      exact ⟨rfl, hS.old⟩

end Go.Fer
