/- Great -/
import Derived.Test.YtmibkfdpgmohfaaGreatDoorR2
set_option linter.all false
namespace Go.Fer
open Go Go.Proofs Go.RowKit

theorem great15 (w0 : World) (R : Ready) (bs : List UInt8) (sg : List (Vector UInt8 64)) (ks : List Key) (ins : List Instr) (lks : List Lookup) (r : List Role) (hR : RIs w0 R bs sg ks ins lks r) : Ret Tryz.prog 4 #[.agg (Enc.enc R)] w0 (fun u w' => ∃ b, u = .bool b ∧ (b = false → Small bs sg ks ins lks r) ∧ Bel w0 w') := by
 refine Ret.enter (args := [.agg (Enc.enc R)]) Tryz.func4 rfl Tryz.ntmps4 Tryz.results4 rfl ?_
 have hS := St.start w0
 obtain ⟨_, hbl, _, hsl, _, hkl0, _, hil, _, _, hll, _, _, hrl, _, _, _⟩ := id hR
 refine WC.seq (fun K1 hK1 => ?_)
 refine WC.region ?_
 refine WL.op rfl (opW.boxA hS rfl ?_)
 intro b1 w _ hS
 refine WL.op rfl (opW.assignB rfl ?_)
 refine WL.nil ?_
 refine thenQ_n (hK1 _ _ ?_)
 refine WC.seq (fun K2 hK2 => ?_)
 refine WC.region ?_
 refine WL.op rfl (opW.fieldAddrB rfl ?_)
 refine WL.op rfl (opW.loadV rfl (hS.ld1 (b := b1) (cs := Enc.enc R) (by repeat constructor) (Ready.at_bytes R)) ?_)
 refine WL.op rfl (opW.lenV rfl ((hR.fb.bel hS.old)) ?_)
 refine WL.op rfl (opW.fieldAddrB rfl ?_)
 refine WL.op rfl (opW.loadV rfl (hS.ld1 (b := b1) (cs := Enc.enc R) (by repeat constructor) (Ready.at_roles R)) ?_)
 refine WL.op rfl (opW.lenV rfl ((hR.fr.bel hS.old)) ?_)
 refine WL.op rfl (opW.add rfl rfl (wrap_i64 (by omega)) ?_)
 refine WL.op rfl (opW.fieldAddrB rfl ?_)
 refine WL.op rfl (opW.fieldAddrB rfl ?_)
 refine WL.op rfl (opW.loadV rfl (hS.ld1 (b := b1) (cs := Enc.enc R) (by repeat constructor) (Ready.at_sigs R)) ?_)
 refine WL.op rfl (opW.lenV rfl ((hR.fs.bel hS.old)) ?_)
 refine WL.op rfl (opW.add rfl rfl (wrap_i64 (by omega)) ?_)
 refine WL.op rfl (opW.fieldAddrB rfl ?_)
 refine WL.op rfl (opW.fieldAddrB rfl ?_)
 refine WL.op rfl (opW.fieldAddrB rfl ?_)
 refine WL.op rfl (opW.loadV rfl (hS.ld1 (b := b1) (cs := Enc.enc R) (by repeat constructor) (Ready.at_keys R)) ?_)
 refine WL.op rfl (opW.lenV rfl ((hR.fk.bel hS.old)) ?_)
 refine WL.op rfl (opW.add rfl rfl (wrap_i64 (by omega)) ?_)
 refine WL.op rfl (opW.fieldAddrB rfl ?_)
 refine WL.op rfl (opW.fieldAddrB rfl ?_)
 refine WL.op rfl (opW.fieldAddrB rfl ?_)
 refine WL.op rfl (opW.loadV rfl (hS.ld1 (b := b1) (cs := Enc.enc R) (by repeat constructor) (Ready.at_ins R)) ?_)
 refine WL.op rfl (opW.lenV rfl ((hR.fi.bel hS.old)) ?_)
 refine WL.op rfl (opW.add rfl rfl (wrap_i64 (by omega)) ?_)
 refine WL.op rfl (opW.fieldAddrB rfl ?_)
 refine WL.op rfl (opW.fieldAddrB rfl ?_)
 refine WL.op rfl (opW.fieldAddrB rfl ?_)
 refine WL.op rfl (opW.loadV rfl (hS.ld1 (b := b1) (cs := Enc.enc R) (by repeat constructor) (Ready.at_lks R)) ?_)
 refine WL.op rfl (opW.lenV rfl ((hR.fl.bel hS.old)) ?_)
 refine WL.op rfl (opW.add rfl rfl (wrap_i64 (by omega)) ?_)
 refine WL.op rfl (opW.assignI rfl ?_)
 refine WL.nil ?_
 refine thenQ_n (hK2 _ _ ?_)
 refine WC.seq (fun K3 hK3 => ?_)
 refine WC.seq (fun K4 hK4 => ?_)
 refine WC.region ?_
 refine WL.op rfl (opW.assignI rfl ?_)
 refine WL.nil ?_
 refine thenQ_n (hK4 _ _ ?_)
 refine WC.block ?_
 refine WC.loop (fun q f w => ∃ (k : Nat) (n : Int), Fits [(1, .pointer (some ⟨b1, 0, none⟩)), (3, .int .i64 n), (4, .int .i64 (k : Int))] f ∧ St w0 [blkE b1 (Enc.enc R) 40] w ∧ k ≤ ins.length ∧ n = (baseN bs sg ks ins lks r : Int) + (insN (ins.take k) : Int) ∧ q = ins.length - k) (ins.length) ?_ ?_
 ·
  exact ⟨0, _, ⟨rfl, rfl, rfl, trivial⟩, hS, Nat.zero_le _, (by have : insN (ins.take 0) = 0 := rfl; unfold baseN; omega), rfl⟩
 ·
  rintro q f w ⟨k, n, hfit, hS, hk0, hnn, hm⟩
  refine WC.fits _ hfit (fun g => ?_)
  clear hfit
  refine WC.seq (fun K5 hK5 => ?_)
  refine WC.seq (fun K6 hK6 => ?_)
  refine WC.region ?_
  refine WL.op rfl (opW.moveI rfl ?_)
  refine WL.op rfl (opW.fieldAddrB rfl ?_)
  refine WL.op rfl (opW.fieldAddrB rfl ?_)
  refine WL.op rfl (opW.fieldAddrB rfl ?_)
  refine WL.op rfl (opW.loadV rfl (hS.ld1 (b := b1) (cs := Enc.enc R) (by repeat constructor) (Ready.at_ins R)) ?_)
  refine WL.op rfl (opW.lenV rfl ((hR.fi.bel hS.old)) ?_)
  refine WL.op rfl (opW.lss rfl rfl ?_)
  refine WL.op rfl (opW.moveB rfl ?_)
  refine WL.gd _ 43 _ rfl rfl rfl rfl (fun hg44 => opW.moveI rfl ⟨rfl, Bel.refl _⟩) (fun w hw => ?_)
  replace hS := hS.bel hw
  refine WL.gd _ 43 _ rfl rfl rfl rfl (fun hg45 => opW.lss (by first | exact gv_of rfl hg45 | rfl) rfl ⟨rfl, Bel.refl _⟩) (fun w hw => ?_)
  replace hS := hS.bel hw
  refine WL.op rfl (opW.pickAnd rfl (by first | rfl) rfl ?_)
  refine WL.nil ?_
  refine thenQ_n (hK6 _ _ ?_)
  refine WC.cond _ rfl (fun hc0 => ?_) (fun hc0 => ?_)
  ·
   have hr0 := hc0
   try simp only [sq1,sq2,sq3,sq4,sq5,sq6,sq7,sq8,sq9,sq0] at hc0
   have hkl : k < ins.length := by omega
   obtain ⟨⟨la, hla, hma, _⟩, ⟨ld, hld, hmd, _⟩⟩ := hR.oi ins[k] (List.getElem_mem hkl)
   refine WC.skip ?_
   refine thenQ_n (hK5 _ _ ?_)
   refine WC.seq (fun K7 hK7 => ?_)
   refine WC.block ?_
   refine WC.draw 22 (.look 0 (.look 1 (.look 2 (.look 3 (.look 4 (.look 5 (.look 6 (.look 7 (.look 8 (.look 9 (.look 10 (.look 11 (.look 12 (.look 13 (.look 14 (.look 15 (.look 16 (.look 17 (.look 18 (.look 19 (.look 20 (.look 21 .nil)))))))))))))))))))))) (by kernel_rfl) (fun _ _ _ h => h) (fun w1 hw1 => ?_)
   replace hS := hS.bel hw1
   have hS1 := hS
   have hT := St.start w1
   refine ML.look rfl rfl rfl (fun w hw => (by have hS := hS1.bel hw; exact opW.moveI rfl ⟨rfl, rfl⟩)) ?_
   refine ML.look rfl rfl rfl (fun w hw => (by have hS := hS1.bel hw; exact opW.fieldAddrB rfl ⟨rfl, rfl⟩)) ?_
   refine ML.look rfl rfl rfl (fun w hw => (by have hS := hS1.bel hw; exact opW.fieldAddrB rfl ⟨rfl, rfl⟩)) ?_
   refine ML.look rfl rfl rfl (fun w hw => (by have hS := hS1.bel hw; exact opW.fieldAddrB rfl ⟨rfl, rfl⟩)) ?_
   refine ML.look rfl rfl rfl (fun w hw => (by have hS := hS1.bel hw; exact opW.loadV rfl (hS.ld1 (b := b1) (cs := Enc.enc R) (by repeat constructor) (Ready.at_ins R)) ⟨rfl, rfl⟩)) ?_
   refine ML.look rfl rfl rfl (fun w hw => (by have hS := hS1.bel hw; exact opW.moveI rfl ⟨rfl, rfl⟩)) ?_
   refine ML.look rfl rfl rfl (fun w hw => (by have hS := hS1.bel hw; exact opW.idxV rfl ((hR.fi.bel hS.old)) rfl (by omega) ⟨rfl, rfl⟩)) ?_
   refine ML.look rfl rfl rfl (fun w hw => (by have hS := hS1.bel hw; exact opW.fieldAddr rfl ((hR.fi.bel hS.old).isP hkl) ⟨rfl, rfl⟩)) ?_
   refine ML.look rfl rfl rfl (fun w hw => (by have hS := hS1.bel hw; exact opW.loadV rfl (Ld.pt1 ((hR.fi.bel hS.old).isPt hkl) 1 (Instr.at_accounts _)) ⟨rfl, rfl⟩)) ?_
   refine ML.look rfl rfl rfl (fun w hw => (by have hS := hS1.bel hw; exact opW.lenV rfl ((hla.bel hS.old)) ⟨rfl, rfl⟩)) ?_
   refine ML.look rfl rfl rfl (fun w hw => (by have hS := hS1.bel hw; exact opW.add rfl rfl (wrap_i64 (by omega)) ⟨rfl, rfl⟩)) ?_
   refine ML.look rfl rfl rfl (fun w hw => (by have hS := hS1.bel hw; exact opW.fieldAddrB rfl ⟨rfl, rfl⟩)) ?_
   refine ML.look rfl rfl rfl (fun w hw => (by have hS := hS1.bel hw; exact opW.fieldAddrB rfl ⟨rfl, rfl⟩)) ?_
   refine ML.look rfl rfl rfl (fun w hw => (by have hS := hS1.bel hw; exact opW.fieldAddrB rfl ⟨rfl, rfl⟩)) ?_
   refine ML.look rfl rfl rfl (fun w hw => (by have hS := hS1.bel hw; exact opW.loadV rfl (hS.ld1 (b := b1) (cs := Enc.enc R) (by repeat constructor) (Ready.at_ins R)) ⟨rfl, rfl⟩)) ?_
   refine ML.look rfl rfl rfl (fun w hw => (by have hS := hS1.bel hw; exact opW.moveI rfl ⟨rfl, rfl⟩)) ?_
   refine ML.look rfl rfl rfl (fun w hw => (by have hS := hS1.bel hw; exact opW.idxV rfl ((hR.fi.bel hS.old)) rfl (by omega) ⟨rfl, rfl⟩)) ?_
   refine ML.look rfl rfl rfl (fun w hw => (by have hS := hS1.bel hw; exact opW.fieldAddr rfl ((hR.fi.bel hS.old).isP hkl) ⟨rfl, rfl⟩)) ?_
   refine ML.look rfl rfl rfl (fun w hw => (by have hS := hS1.bel hw; exact opW.loadV rfl (Ld.pt1 ((hR.fi.bel hS.old).isPt hkl) 2 (Instr.at_data _)) ⟨rfl, rfl⟩)) ?_
   refine ML.look rfl rfl rfl (fun w hw => (by have hS := hS1.bel hw; exact opW.lenV rfl ((hld.bel hS.old)) ⟨rfl, rfl⟩)) ?_
   refine ML.look rfl rfl rfl (fun w hw => (by have hS := hS1.bel hw; exact opW.add rfl rfl (wrap_i64 (by omega)) ⟨rfl, rfl⟩)) ?_
   refine ML.look rfl rfl rfl (fun w hw => (by have hS := hS1.bel hw; exact opW.assignI rfl ⟨rfl, rfl⟩)) ?_
   refine ML.nil ?_
   refine blockQ_n ?_
   refine thenQ_n (hK7 _ _ ?_)
   refine WC.region ?_
   refine WL.op rfl (opW.moveI rfl ?_)
   refine WL.op rfl (opW.add rfl rfl (wrap_i64 (by omega)) ?_)
   refine WL.op rfl (opW.assignI rfl ?_)
   refine WL.nil ?_
   refine thenQ_n ?_
   exact ⟨ins.length - (k + 1), by omega, k + 1, _, ⟨rfl, rfl, congrArg (Value.int .i64) (by omega), trivial⟩, hS, by omega, (by rw [insN_step hkl, lenV_eq hla, lenV_eq hld]; omega), rfl⟩
  ·
   have hr0 := hc0
   try simp only [sq1,sq2,sq3,sq4,sq5,sq6,sq7,sq8,sq9,sq0] at hc0
   have hP : 20000 ≤ n ∨ n = (baseN bs sg ks ins lks r : Int) + (insN ins : Int) + (lksN (lks.take 0) : Int) := by
    simp only [Bool.and_eq_false_iff, decide_eq_false_iff_not] at hr0
    have h0 : lksN (lks.take 0) = 0 := rfl
    rcases hr0 with h | h
    ·right
     obtain rfl : k = ins.length := by omega
     rw [List.take_length] at hnn
     omega
    ·left; omega
   have hn0 : 0 ≤ n := by omega
   refine WC.exit ?_
   refine thenQ_e ?_
   refine thenQ_e ?_
   refine blockQ_hit ?_
   refine thenQ_n (hK3 _ _ ?_)
   refine WC.seq (fun K8 hK8 => ?_)
   refine WC.seq (fun K9 hK9 => ?_)
   refine WC.region ?_
   refine WL.op rfl (opW.assignI rfl ?_)
   refine WL.nil ?_
   refine thenQ_n (hK9 _ _ ?_)
   refine WC.block ?_
   refine WC.loop (fun q f w => ∃ (k : Nat) (n : Int), Fits [(1, .pointer (some ⟨b1, 0, none⟩)), (3, .int .i64 n), (5, .int .i64 (k : Int))] f ∧ St w0 [blkE b1 (Enc.enc R) 40] w ∧ k ≤ lks.length ∧ (20000 ≤ n ∨ n = (baseN bs sg ks ins lks r : Int) + (insN ins : Int) + (lksN (lks.take k) : Int)) ∧ 0 ≤ n ∧ q = lks.length - k) (lks.length) ?_ ?_
   ·
    exact ⟨0, _, ⟨rfl, rfl, rfl, trivial⟩, hS, Nat.zero_le _, hP, hn0, rfl⟩
   ·
    rintro q f w ⟨k, n, hfit, hS, hk0, hP, hn0, hm⟩
    refine WC.fits _ hfit (fun g => ?_)
    clear hfit
    refine WC.seq (fun K10 hK10 => ?_)
    refine WC.seq (fun K11 hK11 => ?_)
    refine WC.region ?_
    refine WL.op rfl (opW.moveI rfl ?_)
    refine WL.op rfl (opW.fieldAddrB rfl ?_)
    refine WL.op rfl (opW.fieldAddrB rfl ?_)
    refine WL.op rfl (opW.fieldAddrB rfl ?_)
    refine WL.op rfl (opW.loadV rfl (hS.ld1 (b := b1) (cs := Enc.enc R) (by repeat constructor) (Ready.at_lks R)) ?_)
    refine WL.op rfl (opW.lenV rfl ((hR.fl.bel hS.old)) ?_)
    refine WL.op rfl (opW.lss rfl rfl ?_)
    refine WL.op rfl (opW.moveB rfl ?_)
    refine WL.gd _ 77 _ rfl rfl rfl rfl (fun hg78 => opW.moveI rfl ⟨rfl, Bel.refl _⟩) (fun w hw => ?_)
    replace hS := hS.bel hw
    refine WL.gd _ 77 _ rfl rfl rfl rfl (fun hg79 => opW.lss (by first | exact gv_of rfl hg79 | rfl) rfl ⟨rfl, Bel.refl _⟩) (fun w hw => ?_)
    replace hS := hS.bel hw
    refine WL.op rfl (opW.pickAnd rfl (by first | rfl) rfl ?_)
    refine WL.nil ?_
    refine thenQ_n (hK11 _ _ ?_)
    refine WC.cond _ rfl (fun hc1 => ?_) (fun hc1 => ?_)
    ·
     have hr1 := hc1
     try simp only [sq1,sq2,sq3,sq4,sq5,sq6,sq7,sq8,sq9,sq0] at hc1
     have hkl : k < lks.length := by omega
     obtain ⟨⟨la, hla, hma, _⟩, ⟨ld, hld, hmd, _⟩⟩ := hR.ol lks[k] (List.getElem_mem hkl)
     refine WC.skip ?_
     refine thenQ_n (hK10 _ _ ?_)
     refine WC.seq (fun K12 hK12 => ?_)
     refine WC.block ?_
     refine WC.draw 22 (.look 0 (.look 1 (.look 2 (.look 3 (.look 4 (.look 5 (.look 6 (.look 7 (.look 8 (.look 9 (.look 10 (.look 11 (.look 12 (.look 13 (.look 14 (.look 15 (.look 16 (.look 17 (.look 18 (.look 19 (.look 20 (.look 21 .nil)))))))))))))))))))))) (by kernel_rfl) (fun _ _ _ h => h) (fun w1 hw1 => ?_)
     replace hS := hS.bel hw1
     have hS1 := hS
     have hT := St.start w1
     refine ML.look rfl rfl rfl (fun w hw => (by have hS := hS1.bel hw; exact opW.moveI rfl ⟨rfl, rfl⟩)) ?_
     refine ML.look rfl rfl rfl (fun w hw => (by have hS := hS1.bel hw; exact opW.fieldAddrB rfl ⟨rfl, rfl⟩)) ?_
     refine ML.look rfl rfl rfl (fun w hw => (by have hS := hS1.bel hw; exact opW.fieldAddrB rfl ⟨rfl, rfl⟩)) ?_
     refine ML.look rfl rfl rfl (fun w hw => (by have hS := hS1.bel hw; exact opW.fieldAddrB rfl ⟨rfl, rfl⟩)) ?_
     refine ML.look rfl rfl rfl (fun w hw => (by have hS := hS1.bel hw; exact opW.loadV rfl (hS.ld1 (b := b1) (cs := Enc.enc R) (by repeat constructor) (Ready.at_lks R)) ⟨rfl, rfl⟩)) ?_
     refine ML.look rfl rfl rfl (fun w hw => (by have hS := hS1.bel hw; exact opW.moveI rfl ⟨rfl, rfl⟩)) ?_
     refine ML.look rfl rfl rfl (fun w hw => (by have hS := hS1.bel hw; exact opW.idxV rfl ((hR.fl.bel hS.old)) rfl (by omega) ⟨rfl, rfl⟩)) ?_
     refine ML.look rfl rfl rfl (fun w hw => (by have hS := hS1.bel hw; exact opW.fieldAddr rfl ((hR.fl.bel hS.old).isP hkl) ⟨rfl, rfl⟩)) ?_
     refine ML.look rfl rfl rfl (fun w hw => (by have hS := hS1.bel hw; exact opW.loadV rfl (Ld.pt1 ((hR.fl.bel hS.old).isPt hkl) 32 (Lookup.at_writes _)) ⟨rfl, rfl⟩)) ?_
     refine ML.look rfl rfl rfl (fun w hw => (by have hS := hS1.bel hw; exact opW.lenV rfl ((hla.bel hS.old)) ⟨rfl, rfl⟩)) ?_
     refine ML.look rfl rfl rfl (fun w hw => (by have hS := hS1.bel hw; exact opW.add rfl rfl (wrap_i64 (by omega)) ⟨rfl, rfl⟩)) ?_
     refine ML.look rfl rfl rfl (fun w hw => (by have hS := hS1.bel hw; exact opW.fieldAddrB rfl ⟨rfl, rfl⟩)) ?_
     refine ML.look rfl rfl rfl (fun w hw => (by have hS := hS1.bel hw; exact opW.fieldAddrB rfl ⟨rfl, rfl⟩)) ?_
     refine ML.look rfl rfl rfl (fun w hw => (by have hS := hS1.bel hw; exact opW.fieldAddrB rfl ⟨rfl, rfl⟩)) ?_
     refine ML.look rfl rfl rfl (fun w hw => (by have hS := hS1.bel hw; exact opW.loadV rfl (hS.ld1 (b := b1) (cs := Enc.enc R) (by repeat constructor) (Ready.at_lks R)) ⟨rfl, rfl⟩)) ?_
     refine ML.look rfl rfl rfl (fun w hw => (by have hS := hS1.bel hw; exact opW.moveI rfl ⟨rfl, rfl⟩)) ?_
     refine ML.look rfl rfl rfl (fun w hw => (by have hS := hS1.bel hw; exact opW.idxV rfl ((hR.fl.bel hS.old)) rfl (by omega) ⟨rfl, rfl⟩)) ?_
     refine ML.look rfl rfl rfl (fun w hw => (by have hS := hS1.bel hw; exact opW.fieldAddr rfl ((hR.fl.bel hS.old).isP hkl) ⟨rfl, rfl⟩)) ?_
     refine ML.look rfl rfl rfl (fun w hw => (by have hS := hS1.bel hw; exact opW.loadV rfl (Ld.pt1 ((hR.fl.bel hS.old).isPt hkl) 33 (Lookup.at_reads _)) ⟨rfl, rfl⟩)) ?_
     refine ML.look rfl rfl rfl (fun w hw => (by have hS := hS1.bel hw; exact opW.lenV rfl ((hld.bel hS.old)) ⟨rfl, rfl⟩)) ?_
     refine ML.look rfl rfl rfl (fun w hw => (by have hS := hS1.bel hw; exact opW.add rfl rfl (wrap_i64 (by omega)) ⟨rfl, rfl⟩)) ?_
     refine ML.look rfl rfl rfl (fun w hw => (by have hS := hS1.bel hw; exact opW.assignI rfl ⟨rfl, rfl⟩)) ?_
     refine ML.nil ?_
     refine blockQ_n ?_
     refine thenQ_n (hK12 _ _ ?_)
     refine WC.region ?_
     refine WL.op rfl (opW.moveI rfl ?_)
     refine WL.op rfl (opW.add rfl rfl (wrap_i64 (by omega)) ?_)
     refine WL.op rfl (opW.assignI rfl ?_)
     refine WL.nil ?_
     refine thenQ_n ?_
     exact ⟨lks.length - (k + 1), by omega, k + 1, _, ⟨rfl, rfl, congrArg (Value.int .i64) (by omega), trivial⟩, hS, by omega, (by right; rw [lksN_step hkl, lenV_eq hla, lenV_eq hld]; omega), by omega, rfl⟩
    ·
     have hr1 := hc1
     try simp only [sq1,sq2,sq3,sq4,sq5,sq6,sq7,sq8,sq9,sq0] at hc1
     refine WC.exit ?_
     refine thenQ_e ?_
     refine thenQ_e ?_
     refine blockQ_hit ?_
     refine thenQ_n (hK8 _ _ ?_)
     refine WC.seq (fun K13 hK13 => ?_)
     refine WC.region ?_
     refine WL.op rfl (opW.moveI rfl ?_)
     refine WL.op rfl (opW.gtr rfl rfl ?_)
     refine WL.op rfl (opW.moveB rfl ?_)
     refine WL.gd _ 106 _ rfl rfl rfl rfl (fun hg107 => opW.fieldAddrB rfl ⟨rfl, Bel.refl _⟩) (fun w hw => ?_)
     replace hS := hS.bel hw
     refine WL.gd _ 106 _ rfl rfl rfl rfl (fun hg108 => opW.fieldAddrB (by first | exact gv_of rfl hg108 | rfl) ⟨rfl, Bel.refl _⟩) (fun w hw => ?_)
     replace hS := hS.bel hw
     refine WL.gd _ 106 _ rfl rfl rfl rfl (fun hg109 => opW.fieldAddrB (by first | exact gv_of rfl hg109 | rfl) ⟨rfl, Bel.refl _⟩) (fun w hw => ?_)
     replace hS := hS.bel hw
     refine WL.gd _ 106 R.tx.m.instrs.v rfl rfl rfl rfl (fun hg110 => ?_) (fun w hw => ?_)
     ·refine opW.loadV (by first | exact gv_of rfl hg110 | rfl) (hS.ld1 (b := b1) (cs := Enc.enc R) (by repeat constructor) (Ready.at_ins R)) ⟨rfl, Bel.refl _⟩
     replace hS := hS.bel hw
     refine WL.gd _ 106 _ rfl rfl rfl rfl (fun hg111 => opW.lenV (by first | exact gv_of rfl hg111 | rfl) ((hR.fi.bel hS.old)) ⟨rfl, Bel.refl _⟩) (fun w hw => ?_)
     replace hS := hS.bel hw
     refine WL.gd _ 106 _ rfl rfl rfl rfl (fun hg112 => opW.gtr (by first | exact gv_of rfl hg112 | rfl) rfl ⟨rfl, Bel.refl _⟩) (fun w hw => ?_)
     replace hS := hS.bel hw
     refine WL.op rfl (opW.pickOr rfl rfl (by first | rfl) ?_)
     refine WL.op rfl (opW.moveB rfl ?_)
     refine WL.gd _ 114 _ rfl rfl rfl rfl (fun hg115 => opW.fieldAddrB rfl ⟨rfl, Bel.refl _⟩) (fun w hw => ?_)
     replace hS := hS.bel hw
     refine WL.gd _ 114 R.roles.v rfl rfl rfl rfl (fun hg116 => ?_) (fun w hw => ?_)
     ·refine opW.loadV (by first | exact gv_of rfl hg116 | rfl) (hS.ld1 (b := b1) (cs := Enc.enc R) (by repeat constructor) (Ready.at_roles R)) ⟨rfl, Bel.refl _⟩
     replace hS := hS.bel hw
     refine WL.gd _ 114 _ rfl rfl rfl rfl (fun hg117 => opW.lenV (by first | exact gv_of rfl hg117 | rfl) ((hR.fr.bel hS.old)) ⟨rfl, Bel.refl _⟩) (fun w hw => ?_)
     replace hS := hS.bel hw
     refine WL.gd _ 114 _ rfl rfl rfl rfl (fun hg118 => opW.gtr (by first | exact gv_of rfl hg118 | rfl) rfl ⟨rfl, Bel.refl _⟩) (fun w hw => ?_)
     replace hS := hS.bel hw
     refine WL.op rfl (opW.pickOr rfl rfl (by first | rfl) ?_)
     refine WL.op rfl (opW.assignB rfl ?_)
     refine WL.nil ?_
     refine thenQ_n (hK13 _ _ ?_)
     refine WC.ret ?_
     refine bodyQ_ret (.tmpB rfl .nil) ?_
     refine ⟨_, rfl, ?_, hS.old⟩
     intro hb
     simp only [Bool.or_eq_false_iff, decide_eq_false_iff_not] at hb
     obtain ⟨⟨h1, h2⟩, h3⟩ := hb
     have hkk : lks.length ≤ k ∨ 20000 ≤ n := by
      simp only [Bool.and_eq_false_iff, decide_eq_false_iff_not] at hr1
      omega
     have hkl : lks.take k = lks := List.take_of_length_le (by omega)
     rw [hkl] at hP
     exact ⟨by omega, by omega, by omega⟩

end Go.Fer
