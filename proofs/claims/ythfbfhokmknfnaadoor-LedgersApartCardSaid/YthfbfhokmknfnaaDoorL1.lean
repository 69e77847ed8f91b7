/- great -/
import Derived.Test.YthfbfhokmknfnaaDoorR2
set_option linter.all false
namespace Go.Fer
open Go Go.Proofs Go.RowKit

theorem great15 (w0 : World) (R : Ready) (bs : List UInt8) (sg : List (Vector UInt8 64)) (ks : List Key) (ins : List Instr) (lks : List Lookup) (r : List Role) (hR : RIs w0 R bs sg ks ins lks r) : Ret Tryd.prog 20 #[.agg (Enc.enc R)] w0 (fun u w' => ∃ b, u = .bool b ∧ (b = false → Small bs sg ks ins lks r) ∧ Bel w0 w') := by
 refine Ret.enter (args := [.agg (Enc.enc R)]) Tryd.func20 rfl Tryd.ntmps20 Tryd.results20 rfl ?_
 have hS := St.start w0
 obtain ⟨_, hbl, _, hsl, _, hkl0, _, hil, _, _, hll, _, _, hrl, _, _, _⟩ := id hR
 refine WC.seq (fun K1 hK1 => ?_)
 refine WC.region ?_
 refine WL.op rfl (opW.boxA hS rfl ?_)
 intro b1 w _ hS
 refine WL.op rfl (opW.assignB rfl ?_)
 refine WL.nil ?_
 refine thenQ_n (hK1 _ _ ?_)
 refine WC.seq (fun K2 hK2 => ?_)
 refine WC.region ?_
 refine WL.op rfl (opW.fieldAddrB rfl ?_)
 refine WL.op rfl (opW.loadV rfl (hS.ld1 (b := b1) (cs := Enc.enc R) (by repeat constructor) (Ready.at_bytes R)) ?_)
 refine WL.op rfl (opW.lenV rfl ((hR.fb.bel hS.old)) ?_)
 refine WL.op rfl (opW.fieldAddrB rfl ?_)
 refine WL.op rfl (opW.loadV rfl (hS.ld1 (b := b1) (cs := Enc.enc R) (by repeat constructor) (Ready.at_roles R)) ?_)
 refine WL.op rfl (opW.lenV rfl ((hR.fr.bel hS.old)) ?_)
 refine WL.op rfl (opW.add rfl rfl (wrap_i64 (by omega)) ?_)
 refine WL.op rfl (opW.fieldAddrB rfl ?_)
 refine WL.op rfl (opW.fieldAddrB rfl ?_)
 refine WL.op rfl (opW.loadV rfl (hS.ld1 (b := b1) (cs := Enc.enc R) (by repeat constructor) (Ready.at_sigs R)) ?_)
 refine WL.op rfl (opW.lenV rfl ((hR.fs.bel hS.old)) ?_)
 refine WL.op rfl (opW.add rfl rfl (wrap_i64 (by omega)) ?_)
 refine WL.op rfl (opW.fieldAddrB rfl ?_)
 refine WL.op rfl (opW.fieldAddrB rfl ?_)
 refine WL.op rfl (opW.fieldAddrB rfl ?_)
 refine WL.op rfl (opW.loadV rfl (hS.ld1 (b := b1) (cs := Enc.enc R) (by repeat constructor) (Ready.at_keys R)) ?_)
 refine WL.op rfl (opW.lenV rfl ((hR.fk.bel hS.old)) ?_)
 refine WL.op rfl (opW.add rfl rfl (wrap_i64 (by omega)) ?_)
 refine WL.op rfl (opW.fieldAddrB rfl ?_)
 refine WL.op rfl (opW.fieldAddrB rfl ?_)
 refine WL.op rfl (opW.fieldAddrB rfl ?_)
 refine WL.op rfl (opW.loadV rfl (hS.ld1 (b := b1) (cs := Enc.enc R) (by repeat constructor) (Ready.at_ins R)) ?_)
 refine WL.op rfl (opW.lenV rfl ((hR.fi.bel hS.old)) ?_)
 refine WL.op rfl (opW.add rfl rfl (wrap_i64 (by omega)) ?_)
 refine WL.op rfl (opW.fieldAddrB rfl ?_)
 refine WL.op rfl (opW.fieldAddrB rfl ?_)
 refine WL.op rfl (opW.fieldAddrB rfl ?_)
 refine WL.op rfl (opW.loadV rfl (hS.ld1 (b := b1) (cs := Enc.enc R) (by repeat constructor) (Ready.at_lks R)) ?_)
 refine WL.op rfl (opW.lenV rfl ((hR.fl.bel hS.old)) ?_)
 refine WL.op rfl (opW.add rfl rfl (wrap_i64 (by omega)) ?_)
 refine WL.op rfl (opW.assignI rfl ?_)
 refine WL.nil ?_
 refine thenQ_n (hK2 _ _ ?_)
 refine WC.seq (fun K3 hK3 => ?_)
 refine WC.seq (fun K4 hK4 => ?_)
 refine WC.region ?_
 refine WL.op rfl (opW.assignI rfl ?_)
 refine WL.nil ?_
 refine thenQ_n (hK4 _ _ ?_)
 refine WC.block ?_
 refine WC.loop (fun q f w => ∃ (k : Nat) (n : Int), Fits [(1, .pointer (some ⟨b1, 0, none⟩)), (3, .int .i64 n), (4, .int .i64 (k : Int))] f ∧ St w0 [blkE b1 (Enc.enc R) 56] w ∧ k ≤ ins.length ∧ n = (baseN bs sg ks ins lks r : Int) + (insN (ins.take k) : Int) ∧ q = ins.length - k) (ins.length) ?_ ?_
 ·
  exact ⟨0, _, ⟨rfl, rfl, rfl, trivial⟩, hS, Nat.zero_le _, (by have : insN (ins.take 0) = 0 := rfl; unfold baseN; omega), rfl⟩
 ·
  rintro q f w ⟨k, n, hfit, hS, hk0, hnn, hm⟩
  refine WC.fits _ hfit (fun g => ?_)
  clear hfit
  refine WC.seq (fun K5 hK5 => ?_)
  refine WC.seq (fun K6 hK6 => ?_)
  refine WC.region ?_
  refine WL.op rfl (opW.moveI rfl ?_)
  refine WL.op rfl (opW.fieldAddrB rfl ?_)
  refine WL.op rfl (opW.fieldAddrB rfl ?_)
  refine WL.op rfl (opW.fieldAddrB rfl ?_)
  refine WL.op rfl (opW.loadV rfl (hS.ld1 (b := b1) (cs := Enc.enc R) (by repeat constructor) (Ready.at_ins R)) ?_)
  refine WL.op rfl (opW.lenV rfl ((hR.fi.bel hS.old)) ?_)
  refine WL.op rfl (opW.lss rfl rfl ?_)
  refine WL.op rfl (opW.moveB rfl ?_)
  refine WL.gd _ 43 _ rfl rfl rfl rfl (fun hg44 => opW.moveI rfl ⟨rfl, Bel.refl _⟩) (fun w hw => ?_)
  replace hS := hS.bel hw
  refine WL.gd _ 43 _ rfl rfl rfl rfl (fun hg45 => opW.lss (by first | exact gv_of rfl hg45 | rfl) rfl ⟨rfl, Bel.refl _⟩) (fun w hw => ?_)
  replace hS := hS.bel hw
  refine WL.op rfl (opW.pickAnd rfl (by first | rfl) rfl ?_)
  refine WL.nil ?_
  refine thenQ_n (hK6 _ _ ?_)
  refine WC.cond _ rfl (fun hc0 => ?_) (fun hc0 => ?_)
  ·
   have hr0 := hc0
   try simp only [sq1,sq2,sq3,sq4,sq5,sq6,sq7,sq8,sq9,sq0] at hc0
   have hkl : k < ins.length := by omega
   obtain ⟨⟨la, hla, hma, _⟩, ⟨ld, hld, hmd, _⟩⟩ := hR.oi ins[k] (List.getElem_mem hkl)
   refine WC.skip ?_
   refine thenQ_n (hK5 _ _ ?_)
   refine WC.seq (fun K7 hK7 => ?_)
   refine WC.block ?_
   refine WC.draw 22 (.look 0 (.look 1 (.look 2 (.look 3 (.look 4 (.look 5 (.look 6 (.look 7 (.look 8 (.look 9 (.look 10 (.look 11 (.look 12 (.look 13 (.look 14 (.look 15 (.look 16 (.look 17 (.look 18 (.look 19 (.look 20 (.look 21 .nil)))))))))))))))))))))) (by kernel_rfl) (fun _ _ _ h => h) (fun w1 hw1 => ?_)
   replace hS := hS.bel hw1
   have hS1 := hS
   have hT := St.start w1
   refine ML.look rfl rfl rfl (fun w hw => (by have hS := hS1.bel hw; exact opW.moveI rfl ⟨rfl, rfl⟩)) ?_
   refine ML.look rfl rfl rfl (fun w hw => (by have hS := hS1.bel hw; exact opW.fieldAddrB rfl ⟨rfl, rfl⟩)) ?_
   refine ML.look rfl rfl rfl (fun w hw => (by have hS := hS1.bel hw; exact opW.fieldAddrB rfl ⟨rfl, rfl⟩)) ?_
   refine ML.look rfl rfl rfl (fun w hw => (by have hS := hS1.bel hw; exact opW.fieldAddrB rfl ⟨rfl, rfl⟩)) ?_
   refine ML.look rfl rfl rfl (fun w hw => (by have hS := hS1.bel hw; exact opW.loadV rfl (hS.ld1 (b := b1) (cs := Enc.enc R) (by repeat constructor) (Ready.at_ins R)) ⟨rfl, rfl⟩)) ?_
   refine ML.look rfl rfl rfl (fun w hw => (by have hS := hS1.bel hw; exact opW.moveI rfl ⟨rfl, rfl⟩)) ?_
   refine ML.look rfl rfl rfl (fun w hw => (by have hS := hS1.bel hw; exact opW.idxV rfl ((hR.fi.bel hS.old)) rfl (by omega) ⟨rfl, rfl⟩)) ?_
   refine ML.look rfl rfl rfl (fun w hw => (by have hS := hS1.bel hw; exact opW.fieldAddr rfl ((hR.fi.bel hS.old).isP hkl) ⟨rfl, rfl⟩)) ?_
   refine ML.look rfl rfl rfl (fun w hw => (by have hS := hS1.bel hw; exact opW.loadV rfl (Ld.pt1 ((hR.fi.bel hS.old).isPt hkl) 1 (Instr.at_accounts _)) ⟨rfl, rfl⟩)) ?_
   refine ML.look rfl rfl rfl (fun w hw => (by have hS := hS1.bel hw; exact opW.lenV rfl ((hla.bel hS.old)) ⟨rfl, rfl⟩)) ?_
   refine ML.look rfl rfl rfl (fun w hw => (by have hS := hS1.bel hw; exact opW.add rfl rfl (wrap_i64 (by omega)) ⟨rfl, rfl⟩)) ?_
   refine ML.look rfl rfl rfl (fun w hw => (by have hS := hS1.bel hw; exact opW.fieldAddrB rfl ⟨rfl, rfl⟩)) ?_
   refine ML.look rfl rfl rfl (fun w hw => (by have hS := hS1.bel hw; exact opW.fieldAddrB rfl ⟨rfl, rfl⟩)) ?_
   refine ML.look rfl rfl rfl (fun w hw => (by have hS := hS1.bel hw; exact opW.fieldAddrB rfl ⟨rfl, rfl⟩)) ?_
   refine ML.look rfl rfl rfl (fun w hw => (by have hS := hS1.bel hw; exact opW.loadV rfl (hS.ld1 (b := b1) (cs := Enc.enc R) (by repeat constructor) (Ready.at_ins R)) ⟨rfl, rfl⟩)) ?_
   refine ML.look rfl rfl rfl (fun w hw => (by have hS := hS1.bel hw; exact opW.moveI rfl ⟨rfl, rfl⟩)) ?_
   refine ML.look rfl rfl rfl (fun w hw => (by have hS := hS1.bel hw; exact opW.idxV rfl ((hR.fi.bel hS.old)) rfl (by omega) ⟨rfl, rfl⟩)) ?_
   refine ML.look rfl rfl rfl (fun w hw => (by have hS := hS1.bel hw; exact opW.fieldAddr rfl ((hR.fi.bel hS.old).isP hkl) ⟨rfl, rfl⟩)) ?_
   refine ML.look rfl rfl rfl (fun w hw => (by have hS := hS1.bel hw; exact opW.loadV rfl (Ld.pt1 ((hR.fi.bel hS.old).isPt hkl) 2 (Instr.at_data _)) ⟨rfl, rfl⟩)) ?_
   refine ML.look rfl rfl rfl (fun w hw => (by have hS := hS1.bel hw; exact opW.lenV rfl ((hld.bel hS.old)) ⟨rfl, rfl⟩)) ?_
   refine ML.look rfl rfl rfl (fun w hw => (by have hS := hS1.bel hw; exact opW.add rfl rfl (wrap_i64 (by omega)) ⟨rfl, rfl⟩)) ?_
   refine ML.look rfl rfl rfl (fun w hw => (by have hS := hS1.bel hw; exact opW.assignI rfl ⟨rfl, rfl⟩)) ?_
   refine ML.nil ?_
   refine blockQ_n ?_
   refine thenQ_n (hK7 _ _ ?_)
   refine WC.region ?_
   refine WL.op rfl (opW.moveI rfl ?_)
   refine WL.op rfl (opW.add rfl rfl (wrap_i64 (by omega)) ?_)
   refine WL.op rfl (opW.assignI rfl ?_)
   refine WL.nil ?_
   refine thenQ_n ?_
   exact ⟨ins.length - (k + 1), by omega, k + 1, _, ⟨rfl, rfl, congrArg (Value.int .i64) (by omega), trivial⟩, hS, by omega, (by rw [insN_step hkl, lenV_eq hla, lenV_eq hld]; omega), rfl⟩
  ·
   have hr0 := hc0
   try simp only [sq1,sq2,sq3,sq4,sq5,sq6,sq7,sq8,sq9,sq0] at hc0
   have hP : 20000 ≤ n ∨ n = (baseN bs sg ks ins lks r : Int) + (insN ins : Int) + (lksN (lks.take 0) : Int) := by
    simp only [Bool.and_eq_false_iff, decide_eq_false_iff_not] at hr0
    have h0 : lksN (lks.take 0) = 0 := rfl
    rcases hr0 with h | h
    ·right
     obtain rfl : k = ins.length := by omega
     rw [List.take_length] at hnn
     omega
    ·left; omega
   have hn0 : 0 ≤ n := by omega
   refine WC.exit ?_
   refine thenQ_e ?_
   refine thenQ_e ?_
   refine blockQ_hit ?_
   refine thenQ_n (hK3 _ _ ?_)
   refine WC.seq (fun K8 hK8 => ?_)
   refine WC.seq (fun K9 hK9 => ?_)
   refine WC.region ?_
   refine WL.op rfl (opW.assignI rfl ?_)
   refine WL.nil ?_
   refine thenQ_n (hK9 _ _ ?_)
   refine WC.block ?_
   refine WC.loop (fun q f w => ∃ (k : Nat) (n : Int), Fits [(1, .pointer (some ⟨b1, 0, none⟩)), (3, .int .i64 n), (5, .int .i64 (k : Int))] f ∧ St w0 [blkE b1 (Enc.enc R) 56] w ∧ k ≤ lks.length ∧ (20000 ≤ n ∨ n = (baseN bs sg ks ins lks r : Int) + (insN ins : Int) + (lksN (lks.take k) : Int)) ∧ 0 ≤ n ∧ q = lks.length - k) (lks.length) ?_ ?_
   ·
    exact ⟨0, _, ⟨rfl, rfl, rfl, trivial⟩, hS, Nat.zero_le _, hP, hn0, rfl⟩
   ·
    rintro q f w ⟨k, n, hfit, hS, hk0, hP, hn0, hm⟩
    refine WC.fits _ hfit (fun g => ?_)
    clear hfit
    refine WC.seq (fun K10 hK10 => ?_)
    refine WC.seq (fun K11 hK11 => ?_)
    refine WC.region ?_
    refine WL.op rfl (opW.moveI rfl ?_)
    refine WL.op rfl (opW.fieldAddrB rfl ?_)
    refine WL.op rfl (opW.fieldAddrB rfl ?_)
    refine WL.op rfl (opW.fieldAddrB rfl ?_)
    refine WL.op rfl (opW.loadV rfl (hS.ld1 (b := b1) (cs := Enc.enc R) (by repeat constructor) (Ready.at_lks R)) ?_)
    refine WL.op rfl (opW.lenV rfl ((hR.fl.bel hS.old)) ?_)
    refine WL.op rfl (opW.lss rfl rfl ?_)
    refine WL.op rfl (opW.moveB rfl ?_)
    refine WL.gd _ 77 _ rfl rfl rfl rfl (fun hg78 => opW.moveI rfl ⟨rfl, Bel.refl _⟩) (fun w hw => ?_)
    replace hS := hS.bel hw
    refine WL.gd _ 77 _ rfl rfl rfl rfl (fun hg79 => opW.lss (by first | exact gv_of rfl hg79 | rfl) rfl ⟨rfl, Bel.refl _⟩) (fun w hw => ?_)
    replace hS := hS.bel hw
    refine WL.op rfl (opW.pickAnd rfl (by first | rfl) rfl ?_)
    refine WL.nil ?_
    refine thenQ_n (hK11 _ _ ?_)
    refine WC.cond _ rfl (fun hc1 => ?_) (fun hc1 => ?_)
    ·
     have hr1 := hc1
     try simp only [sq1,sq2,sq3,sq4,sq5,sq6,sq7,sq8,sq9,sq0] at hc1
     have hkl : k < lks.length := by omega
     obtain ⟨⟨la, hla, hma, _⟩, ⟨ld, hld, hmd, _⟩⟩ := hR.ol lks[k] (List.getElem_mem hkl)
     refine WC.skip ?_
     refine thenQ_n (hK10 _ _ ?_)
     refine WC.seq (fun K12 hK12 => ?_)
     refine WC.block ?_
     refine WC.draw 22 (.look 0 (.look 1 (.look 2 (.look 3 (.look 4 (.look 5 (.look 6 (.look 7 (.look 8 (.look 9 (.look 10 (.look 11 (.look 12 (.look 13 (.look 14 (.look 15 (.look 16 (.look 17 (.look 18 (.look 19 (.look 20 (.look 21 .nil)))))))))))))))))))))) (by kernel_rfl) (fun _ _ _ h => h) (fun w1 hw1 => ?_)
     replace hS := hS.bel hw1
     have hS1 := hS
     have hT := St.start w1
     refine ML.look rfl rfl rfl (fun w hw => (by have hS := hS1.bel hw; exact opW.moveI rfl ⟨rfl, rfl⟩)) ?_
     refine ML.look rfl rfl rfl (fun w hw => (by have hS := hS1.bel hw; exact opW.fieldAddrB rfl ⟨rfl, rfl⟩)) ?_
     refine ML.look rfl rfl rfl (fun w hw => (by have hS := hS1.bel hw; exact opW.fieldAddrB rfl ⟨rfl, rfl⟩)) ?_
     refine ML.look rfl rfl rfl (fun w hw => (by have hS := hS1.bel hw; exact opW.fieldAddrB rfl ⟨rfl, rfl⟩)) ?_
     refine ML.look rfl rfl rfl (fun w hw => (by have hS := hS1.bel hw; exact opW.loadV rfl (hS.ld1 (b := b1) (cs := Enc.enc R) (by repeat constructor) (Ready.at_lks R)) ⟨rfl, rfl⟩)) ?_
     refine ML.look rfl rfl rfl (fun w hw => (by have hS := hS1.bel hw; exact opW.moveI rfl ⟨rfl, rfl⟩)) ?_
     refine ML.look rfl rfl rfl (fun w hw => (by have hS := hS1.bel hw; exact opW.idxV rfl ((hR.fl.bel hS.old)) rfl (by omega) ⟨rfl, rfl⟩)) ?_
     refine ML.look rfl rfl rfl (fun w hw => (by have hS := hS1.bel hw; exact opW.fieldAddr rfl ((hR.fl.bel hS.old).isP hkl) ⟨rfl, rfl⟩)) ?_
     refine ML.look rfl rfl rfl (fun w hw => (by have hS := hS1.bel hw; exact opW.loadV rfl (Ld.pt1 ((hR.fl.bel hS.old).isPt hkl) 32 (Lookup.at_writes _)) ⟨rfl, rfl⟩)) ?_
     refine ML.look rfl rfl rfl (fun w hw => (by have hS := hS1.bel hw; exact opW.lenV rfl ((hla.bel hS.old)) ⟨rfl, rfl⟩)) ?_
     refine ML.look rfl rfl rfl (fun w hw => (by have hS := hS1.bel hw; exact opW.add rfl rfl (wrap_i64 (by omega)) ⟨rfl, rfl⟩)) ?_
     refine ML.look rfl rfl rfl (fun w hw => (by have hS := hS1.bel hw; exact opW.fieldAddrB rfl ⟨rfl, rfl⟩)) ?_
     refine ML.look rfl rfl rfl (fun w hw => (by have hS := hS1.bel hw; exact opW.fieldAddrB rfl ⟨rfl, rfl⟩)) ?_
     refine ML.look rfl rfl rfl (fun w hw => (by have hS := hS1.bel hw; exact opW.fieldAddrB rfl ⟨rfl, rfl⟩)) ?_
     refine ML.look rfl rfl rfl (fun w hw => (by have hS := hS1.bel hw; exact opW.loadV rfl (hS.ld1 (b := b1) (cs := Enc.enc R) (by repeat constructor) (Ready.at_lks R)) ⟨rfl, rfl⟩)) ?_
     refine ML.look rfl rfl rfl (fun w hw => (by have hS := hS1.bel hw; exact opW.moveI rfl ⟨rfl, rfl⟩)) ?_
     refine ML.look rfl rfl rfl (fun w hw => (by have hS := hS1.bel hw; exact opW.idxV rfl ((hR.fl.bel hS.old)) rfl (by omega) ⟨rfl, rfl⟩)) ?_
     refine ML.look rfl rfl rfl (fun w hw => (by have hS := hS1.bel hw; exact opW.fieldAddr rfl ((hR.fl.bel hS.old).isP hkl) ⟨rfl, rfl⟩)) ?_
     refine ML.look rfl rfl rfl (fun w hw => (by have hS := hS1.bel hw; exact opW.loadV rfl (Ld.pt1 ((hR.fl.bel hS.old).isPt hkl) 33 (Lookup.at_reads _)) ⟨rfl, rfl⟩)) ?_
     refine ML.look rfl rfl rfl (fun w hw => (by have hS := hS1.bel hw; exact opW.lenV rfl ((hld.bel hS.old)) ⟨rfl, rfl⟩)) ?_
     refine ML.look rfl rfl rfl (fun w hw => (by have hS := hS1.bel hw; exact opW.add rfl rfl (wrap_i64 (by omega)) ⟨rfl, rfl⟩)) ?_
     refine ML.look rfl rfl rfl (fun w hw => (by have hS := hS1.bel hw; exact opW.assignI rfl ⟨rfl, rfl⟩)) ?_
     refine ML.nil ?_
     refine blockQ_n ?_
     refine thenQ_n (hK12 _ _ ?_)
     refine WC.region ?_
     refine WL.op rfl (opW.moveI rfl ?_)
     refine WL.op rfl (opW.add rfl rfl (wrap_i64 (by omega)) ?_)
     refine WL.op rfl (opW.assignI rfl ?_)
     refine WL.nil ?_
     refine thenQ_n ?_
     exact ⟨lks.length - (k + 1), by omega, k + 1, _, ⟨rfl, rfl, congrArg (Value.int .i64) (by omega), trivial⟩, hS, by omega, (by right; rw [lksN_step hkl, lenV_eq hla, lenV_eq hld]; omega), by omega, rfl⟩
    ·
     have hr1 := hc1
     try simp only [sq1,sq2,sq3,sq4,sq5,sq6,sq7,sq8,sq9,sq0] at hc1
     refine WC.exit ?_
     refine thenQ_e ?_
     refine thenQ_e ?_
     refine blockQ_hit ?_
     refine thenQ_n (hK8 _ _ ?_)
     refine WC.seq (fun K13 hK13 => ?_)
     refine WC.region ?_
     refine WL.op rfl (opW.moveI rfl ?_)
     refine WL.op rfl (opW.gtr rfl rfl ?_)
     refine WL.op rfl (opW.moveB rfl ?_)
     refine WL.gd _ 106 _ rfl rfl rfl rfl (fun hg107 => opW.fieldAddrB rfl ⟨rfl, Bel.refl _⟩) (fun w hw => ?_)
     replace hS := hS.bel hw
     refine WL.gd _ 106 _ rfl rfl rfl rfl (fun hg108 => opW.fieldAddrB (by first | exact gv_of rfl hg108 | rfl) ⟨rfl, Bel.refl _⟩) (fun w hw => ?_)
     replace hS := hS.bel hw
     refine WL.gd _ 106 _ rfl rfl rfl rfl (fun hg109 => opW.fieldAddrB (by first | exact gv_of rfl hg109 | rfl) ⟨rfl, Bel.refl _⟩) (fun w hw => ?_)
     replace hS := hS.bel hw
     refine WL.gd _ 106 R.tx.m.instrs.v rfl rfl rfl rfl (fun hg110 => ?_) (fun w hw => ?_)
     ·refine opW.loadV (by first | exact gv_of rfl hg110 | rfl) (hS.ld1 (b := b1) (cs := Enc.enc R) (by repeat constructor) (Ready.at_ins R)) ⟨rfl, Bel.refl _⟩
     replace hS := hS.bel hw
     refine WL.gd _ 106 _ rfl rfl rfl rfl (fun hg111 => opW.lenV (by first | exact gv_of rfl hg111 | rfl) ((hR.fi.bel hS.old)) ⟨rfl, Bel.refl _⟩) (fun w hw => ?_)
     replace hS := hS.bel hw
     refine WL.gd _ 106 _ rfl rfl rfl rfl (fun hg112 => opW.gtr (by first | exact gv_of rfl hg112 | rfl) rfl ⟨rfl, Bel.refl _⟩) (fun w hw => ?_)
     replace hS := hS.bel hw
     refine WL.op rfl (opW.pickOr rfl rfl (by first | rfl) ?_)
     refine WL.op rfl (opW.moveB rfl ?_)
     refine WL.gd _ 114 _ rfl rfl rfl rfl (fun hg115 => opW.fieldAddrB rfl ⟨rfl, Bel.refl _⟩) (fun w hw => ?_)
     replace hS := hS.bel hw
     refine WL.gd _ 114 R.roles.v rfl rfl rfl rfl (fun hg116 => ?_) (fun w hw => ?_)
     ·refine opW.loadV (by first | exact gv_of rfl hg116 | rfl) (hS.ld1 (b := b1) (cs := Enc.enc R) (by repeat constructor) (Ready.at_roles R)) ⟨rfl, Bel.refl _⟩
     replace hS := hS.bel hw
     refine WL.gd _ 114 _ rfl rfl rfl rfl (fun hg117 => opW.lenV (by first | exact gv_of rfl hg117 | rfl) ((hR.fr.bel hS.old)) ⟨rfl, Bel.refl _⟩) (fun w hw => ?_)
     replace hS := hS.bel hw
     refine WL.gd _ 114 _ rfl rfl rfl rfl (fun hg118 => opW.gtr (by first | exact gv_of rfl hg118 | rfl) rfl ⟨rfl, Bel.refl _⟩) (fun w hw => ?_)
     replace hS := hS.bel hw
     refine WL.op rfl (opW.pickOr rfl rfl (by first | rfl) ?_)
     refine WL.op rfl (opW.assignB rfl ?_)
     refine WL.nil ?_
     refine thenQ_n (hK13 _ _ ?_)
     refine WC.ret ?_
     refine bodyQ_ret (.tmpB rfl .nil) ?_
     refine ⟨_, rfl, ?_, hS.old⟩
     intro hb
     simp only [Bool.or_eq_false_iff, decide_eq_false_iff_not] at hb
     obtain ⟨⟨h1, h2⟩, h3⟩ := hb
     have hkk : lks.length ≤ k ∨ 20000 ≤ n := by
      simp only [Bool.and_eq_false_iff, decide_eq_false_iff_not] at hr1
      omega
     have hkl : lks.take k = lks := List.take_of_length_le (by omega)
     rw [hkl] at hP
     exact ⟨by omega, by omega, by omega⟩

def GoneT (w : World) (R : Ready) : Prop := ∃ bs sg ks ins lks r, RIs w R bs sg ks ins lks r ∧ Small bs sg ks ins lks r

theorem great16 (w0 : World) (vl vr : Value) (l : List Holding) (Rs : List Ready) (hl : SlR w0 vl l) (hr : SlR w0 vr Rs) (hR : ∀ R ∈ Rs, R.okz w0) : Ret Tryd.prog 6 #[vl, vr] w0 (fun u w' => ∃ b, u = .bool b ∧ (b = false → l.length ≤ 200 ∧ Rs.length ≤ 40 ∧ ∀ R ∈ Rs, GoneT w0 R) ∧ Bel w0 w') := by
 refine Ret.enter (args := [vl, vr]) Tryd.func6 rfl Tryd.ntmps6 Tryd.results6 rfl ?_
 have hS := St.start w0
 refine WC.seq (fun K1 hK1 => ?_)
 refine WC.region ?_
 refine WL.op rfl (opW.assignB rfl ?_)
 refine WL.nil ?_
 refine thenQ_n (hK1 _ _ ?_)
 refine WC.seq (fun K2 hK2 => ?_)
 refine WC.seq (fun K3 hK3 => ?_)
 refine WC.region ?_
 refine WL.op rfl (opW.moveV (v := vl) rfl ?_)
 refine WL.op rfl (opW.lenV rfl ((hl.bel hS.old)) ?_)
 refine WL.op rfl (opW.gtr rfl rfl ?_)
 cases hcs9 : (decide ((200 : Int) < (l.length : Int))) with
 | true =>
  refine WL.op rfl (opW.moveB rfl ?_)
  refine WL.gd _ 10 _ rfl rfl rfl rfl (fun hg11 => opW.moveV (v := vr) rfl ⟨rfl, Bel.refl _⟩) (fun w hw => ?_)
  replace hS := hS.bel hw
  refine WL.gd _ 10 _ rfl rfl rfl rfl (fun hg12 => opW.lenV (by first | exact gv_of rfl hg12 | rfl) ((hr.bel hS.old)) ⟨rfl, Bel.refl _⟩) (fun w hw => ?_)
  replace hS := hS.bel hw
  refine WL.gd _ 10 _ rfl rfl rfl rfl (fun hg13 => opW.gtr (by first | exact gv_of rfl hg13 | rfl) rfl ⟨rfl, Bel.refl _⟩) (fun w hw => ?_)
  replace hS := hS.bel hw
  refine WL.op rfl (opW.pickOr rfl rfl (by first | rfl) ?_)
  refine WL.nil ?_
  refine thenQ_n (hK3 _ _ ?_)
  refine WC.cond _ rfl (fun hc0 => ?_) (fun hc0 => ?_)
  ·
   have hr0 := hc0
   try simp only [sq1,sq2,sq3,sq4,sq5,sq6,sq7,sq8,sq9,sq0] at hc0
   refine WC.seq (fun K4 hK4 => ?_)
   refine WC.region ?_
   refine WL.op rfl (opW.assignB rfl ?_)
   refine WL.nil ?_
   refine thenQ_n (hK4 _ _ ?_)
   refine WC.ret ?_
   refine thenQ_r ?_
   refine bodyQ_ret (.tmpB rfl .nil) ?_
   first | exact ⟨true, rfl, (fun h => (by cases h)), hS.old⟩ | exact ⟨_, rfl, (fun _ => ⟨hl2, hr2, (fun R hR2 => (by obtain ⟨j, hj, rfl⟩ := List.getElem_of_mem hR2; exact hall j hj (by omega)))⟩), hS.old⟩
  ·
   have hr0 := hc0
   try simp only [sq1,sq2,sq3,sq4,sq5,sq6,sq7,sq8,sq9,sq0] at hc0
   cases hr0
 | false =>
  refine WL.op rfl (opW.moveB rfl ?_)
  refine WL.gd _ 10 _ rfl rfl rfl rfl (fun hg11 => opW.moveV (v := vr) rfl ⟨rfl, Bel.refl _⟩) (fun w hw => ?_)
  replace hS := hS.bel hw
  refine WL.gd _ 10 _ rfl rfl rfl rfl (fun hg12 => opW.lenV (by first | exact gv_of rfl hg12 | rfl) ((hr.bel hS.old)) ⟨rfl, Bel.refl _⟩) (fun w hw => ?_)
  replace hS := hS.bel hw
  refine WL.gd _ 10 _ rfl rfl rfl rfl (fun hg13 => opW.gtr (by first | exact gv_of rfl hg13 | rfl) rfl ⟨rfl, Bel.refl _⟩) (fun w hw => ?_)
  replace hS := hS.bel hw
  refine WL.op rfl (opW.pickOr rfl rfl (by first | rfl) ?_)
  refine WL.nil ?_
  refine thenQ_n (hK3 _ _ ?_)
  refine WC.cond _ rfl (fun hc0 => ?_) (fun hc0 => ?_)
  ·
   have hr0 := hc0
   try simp only [sq1,sq2,sq3,sq4,sq5,sq6,sq7,sq8,sq9,sq0] at hc0
   refine WC.seq (fun K5 hK5 => ?_)
   refine WC.region ?_
   refine WL.op rfl (opW.assignB rfl ?_)
   refine WL.nil ?_
   refine thenQ_n (hK5 _ _ ?_)
   refine WC.ret ?_
   refine thenQ_r ?_
   refine bodyQ_ret (.tmpB rfl .nil) ?_
   first | exact ⟨true, rfl, (fun h => (by cases h)), hS.old⟩ | exact ⟨_, rfl, (fun _ => ⟨hl2, hr2, (fun R hR2 => (by obtain ⟨j, hj, rfl⟩ := List.getElem_of_mem hR2; exact hall j hj (by omega)))⟩), hS.old⟩
  ·
   have hr0 := hc0
   try simp only [sq1,sq2,sq3,sq4,sq5,sq6,sq7,sq8,sq9,sq0] at hc0
   have hl2 : l.length ≤ 200 := by simp only [decide_eq_false_iff_not] at hcs9; omega
   have hr2 : Rs.length ≤ 40 := by omega
   refine WC.skip ?_
   refine thenQ_n (hK2 _ _ ?_)
   refine WC.seq (fun K6 hK6 => ?_)
   refine WC.region ?_
   refine WL.op rfl (opW.assignI rfl ?_)
   refine WL.nil ?_
   refine thenQ_n (hK6 _ _ ?_)
   refine WC.seq (fun K7 hK7 => ?_)
   refine WC.seq (fun K8 hK8 => ?_)
   refine WC.region ?_
   refine WL.op rfl (opW.assignI rfl ?_)
   refine WL.nil ?_
   refine thenQ_n (hK8 _ _ ?_)
   refine WC.block ?_
   refine WC.loop (fun q f w => ∃ (k : Nat) (n : Int), Fits [(1, vr), (5, .int .i64 n), (6, .int .i64 (k : Int))] f ∧ St w0 [] w ∧ 0 ≤ n ∧ n ≤ 500 * (k : Int) ∧ (∀ j (h : j < Rs.length), j < k → GoneT w0 Rs[j]) ∧ k ≤ Rs.length ∧ q = Rs.length - k) (Rs.length) ?_ ?_
   ·
    exact ⟨0, 0, ⟨rfl, rfl, rfl, trivial⟩, hS.sub (by repeat with_reducible first | exact su1 _ | exact su2 _ | refine su3 ?_ | refine su4 ?_), Int.le_refl _, by omega, fun j _ h => absurd h (by omega), Nat.zero_le _, rfl⟩
   ·
    rintro q f w ⟨k, n, hfit, hS, hn0, hn1, hall, hk0, hm⟩
    refine WC.fits _ hfit (fun g => ?_)
    clear hfit
    refine WC.seq (fun K9 hK9 => ?_)
    refine WC.seq (fun K10 hK10 => ?_)
    refine WC.region ?_
    refine WL.op rfl (opW.moveI rfl ?_)
    refine WL.op rfl (opW.moveV (v := vr) rfl ?_)
    refine WL.op rfl (opW.lenV rfl ((hr.bel hS.old)) ?_)
    refine WL.op rfl (opW.lss rfl rfl ?_)
    refine WL.nil ?_
    refine thenQ_n (hK10 _ _ ?_)
    refine WC.cond _ rfl (fun hc1 => ?_) (fun hc1 => ?_)
    ·
     have hr1 := hc1
     try simp only [sq1,sq2,sq3,sq4,sq5,sq6,sq7,sq8,sq9,sq0] at hc1
     have hkl : k < Rs.length := by omega
     obtain ⟨bs, sg, ks, ins, lks, r, hRI⟩ := (hR Rs[k] (List.getElem_mem hkl)).is
     refine WC.skip ?_
     refine thenQ_n (hK9 _ _ ?_)
     refine WC.seq (fun K11 hK11 => ?_)
     refine WC.block ?_
     refine WC.seq (fun K12 hK12 => ?_)
     refine WC.seq (fun K13 hK13 => ?_)
     refine WC.region ?_
     refine WL.op rfl (opW.moveV (v := vr) rfl ?_)
     refine WL.op rfl (opW.moveI rfl ?_)
     refine WL.op rfl (opW.idxV rfl ((hr.bel hS.old)) rfl (by omega) ?_)
     refine WL.op rfl (opW.loadV rfl (((hr.bel hS.old).isPt hkl).ldA (Enc.size_eq Rs[k])) ?_)
     refine WL.op rfl (opW.call (great15 _ Rs[k] bs sg ks ins lks r (hRI.bel hS.old)) rfl ?_)
     rintro _ w ⟨bb, rfl, hbb, hw⟩; replace hS := hS.bel hw
     refine WL.nil ?_
     refine thenQ_n (hK13 _ _ ?_)
     refine WC.cond _ rfl (fun hc2 => ?_) (fun hc2 => ?_)
     ·
      have hr2 := hc2
      try simp only [sq1,sq2,sq3,sq4,sq5,sq6,sq7,sq8,sq9,sq0] at hc2
      refine WC.seq (fun K14 hK14 => ?_)
      refine WC.region ?_
      refine WL.op rfl (opW.assignB rfl ?_)
      refine WL.nil ?_
      refine thenQ_n (hK14 _ _ ?_)
      refine WC.ret ?_
      refine thenQ_r ?_
      refine blockQ_r ?_
      refine thenQ_r ?_
      refine thenQ_r ?_
      refine blockQ_r ?_
      refine thenQ_r ?_
      refine bodyQ_ret (.tmpB rfl .nil) ?_
      first | exact ⟨true, rfl, (fun h => (by cases h)), hS.old⟩ | exact ⟨_, rfl, (fun _ => ⟨hl2, hr2, (fun R hR2 => (by obtain ⟨j, hj, rfl⟩ := List.getElem_of_mem hR2; exact hall j hj (by omega)))⟩), hS.old⟩
     ·
      have hr2 := hc2
      try simp only [sq1,sq2,sq3,sq4,sq5,sq6,sq7,sq8,sq9,sq0] at hc2
      have hsm := hbb hc2
      have hsi := hsm.i
      have hsr := hsm.r
      refine WC.skip ?_
      refine thenQ_n (hK12 _ _ ?_)
      refine WC.draw 18 (.look 0 (.look 1 (.look 2 (.look 3 (.look 4 (.look 5 (.look 6 (.look 7 (.look 8 (.look 9 (.look 10 (.look 11 (.look 12 (.look 13 (.look 14 (.look 15 (.look 16 (.look 17 .nil)))))))))))))))))) (by kernel_rfl) (fun _ _ _ h => h) (fun w1 hw1 => ?_)
      replace hS := hS.bel hw1
      have hS1 := hS
      have hT := St.start w1
      refine ML.look rfl rfl rfl (fun w hw => (by have hS := hS1.bel hw; exact opW.moveI rfl ⟨rfl, rfl⟩)) ?_
      refine ML.look rfl rfl rfl (fun w hw => (by have hS := hS1.bel hw; exact opW.moveV (v := vr) rfl ⟨rfl, rfl⟩)) ?_
      refine ML.look rfl rfl rfl (fun w hw => (by have hS := hS1.bel hw; exact opW.moveI rfl ⟨rfl, rfl⟩)) ?_
      refine ML.look rfl rfl rfl (fun w hw => (by have hS := hS1.bel hw; exact opW.idxV rfl ((hr.bel hS.old)) rfl (by omega) ⟨rfl, rfl⟩)) ?_
      refine ML.look rfl rfl rfl (fun w hw => (by have hS := hS1.bel hw; exact opW.fieldAddr rfl ((hr.bel hS.old).isP hkl) ⟨rfl, rfl⟩)) ?_
      refine ML.look rfl rfl rfl (fun w hw => (by have hS := hS1.bel hw; exact opW.loadV rfl (Ld.pt1 ((hr.bel hS.old).isPt hkl) 41 (Ready.at_roles _)) ⟨rfl, rfl⟩)) ?_
      refine ML.look rfl rfl rfl (fun w hw => (by have hS := hS1.bel hw; exact opW.lenV rfl ((hRI.fr.bel hS.old)) ⟨rfl, rfl⟩)) ?_
      refine ML.look rfl rfl rfl (fun w hw => (by have hS := hS1.bel hw; exact opW.add rfl rfl (wrap_i64 (by omega)) ⟨rfl, rfl⟩)) ?_
      refine ML.look rfl rfl rfl (fun w hw => (by have hS := hS1.bel hw; exact opW.moveV (v := vr) rfl ⟨rfl, rfl⟩)) ?_
      refine ML.look rfl rfl rfl (fun w hw => (by have hS := hS1.bel hw; exact opW.moveI rfl ⟨rfl, rfl⟩)) ?_
      refine ML.look rfl rfl rfl (fun w hw => (by have hS := hS1.bel hw; exact opW.idxV rfl ((hr.bel hS.old)) rfl (by omega) ⟨rfl, rfl⟩)) ?_
      refine ML.look rfl rfl rfl (fun w hw => (by have hS := hS1.bel hw; exact opW.fieldAddr rfl ((hr.bel hS.old).isP hkl) ⟨rfl, rfl⟩)) ?_
      refine ML.look rfl rfl rfl (fun w hw => (by have hS := hS1.bel hw; exact opW.fieldAddr rfl (((hr.bel hS.old).isP hkl).add 1) ⟨rfl, rfl⟩)) ?_
      refine ML.look rfl rfl rfl (fun w hw => (by have hS := hS1.bel hw; exact opW.fieldAddr rfl ((((hr.bel hS.old).isP hkl).add 1).add 1) ⟨rfl, rfl⟩)) ?_
      refine ML.look rfl rfl rfl (fun w hw => (by have hS := hS1.bel hw; exact opW.loadV rfl ((show Ld _ _ _ (ptrAdd (ptrAdd (ptrAdd (elemP vr k (Enc.sz Ready)) 1) 1) 37) Rs[k].tx.m.instrs.v from (by rw [ptrAdd_add, ptrAdd_add]; exact Ld.pt1 ((hr.bel hS.old).isPt hkl) 39 (Ready.at_ins _)))) ⟨rfl, rfl⟩)) ?_
      refine ML.look rfl rfl rfl (fun w hw => (by have hS := hS1.bel hw; exact opW.lenV rfl ((hRI.fi.bel hS.old)) ⟨rfl, rfl⟩)) ?_
      refine ML.look rfl rfl rfl (fun w hw => (by have hS := hS1.bel hw; exact opW.add rfl rfl (wrap_i64 (by omega)) ⟨rfl, rfl⟩)) ?_
      refine ML.look rfl rfl rfl (fun w hw => (by have hS := hS1.bel hw; exact opW.assignI rfl ⟨rfl, rfl⟩)) ?_
      refine ML.nil ?_
      refine blockQ_n ?_
      refine thenQ_n (hK11 _ _ ?_)
      refine WC.region ?_
      refine WL.op rfl (opW.moveI rfl ?_)
      refine WL.op rfl (opW.add rfl rfl (wrap_i64 (by omega)) ?_)
      refine WL.op rfl (opW.assignI rfl ?_)
      refine WL.nil ?_
      refine thenQ_n ?_
      exact ⟨Rs.length - (k + 1), by omega, k + 1, n + r.length + ins.length, ⟨rfl, rfl, congrArg (Value.int .i64) (by omega), trivial⟩, hS.sub (by repeat with_reducible first | exact su1 _ | exact su2 _ | refine su3 ?_ | refine su4 ?_), by omega, by omega, (fun j h1 h2 => by
       rcases Nat.lt_or_ge j k with h | h
       ·exact hall j h1 h
       ·obtain rfl : j = k := by omega
        exact ⟨bs, sg, ks, ins, lks, r, hRI, hsm⟩), by omega, rfl⟩
    ·
     have hr1 := hc1
     try simp only [sq1,sq2,sq3,sq4,sq5,sq6,sq7,sq8,sq9,sq0] at hc1
     refine WC.exit ?_
     refine thenQ_e ?_
     refine thenQ_e ?_
     refine blockQ_hit ?_
     refine thenQ_n (hK7 _ _ ?_)
     refine WC.seq (fun K15 hK15 => ?_)
     refine WC.region ?_
     refine WL.op rfl (opW.moveI rfl ?_)
     refine WL.op rfl (opW.gtr rfl rfl ?_)
     refine WL.op rfl (opW.assignB rfl ?_)
     refine WL.nil ?_
     refine thenQ_n (hK15 _ _ ?_)
     refine WC.ret ?_
     refine bodyQ_ret (.tmpB rfl .nil) ?_
     first | exact ⟨true, rfl, (fun h => (by cases h)), hS.old⟩ | exact ⟨_, rfl, (fun _ => ⟨hl2, hr2, (fun R hR2 => (by obtain ⟨j, hj, rfl⟩ := List.getElem_of_mem hR2; exact hall j hj (by omega)))⟩), hS.old⟩

end Go.Fer
