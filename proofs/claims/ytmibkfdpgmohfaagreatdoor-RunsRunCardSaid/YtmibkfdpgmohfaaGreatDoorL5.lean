/- lives -/
import Derived.Test.YtmibkfdpgmohfaaGreatDoorL4
import Derived.Test.YtmibkfdpgmohfaaGreatDoorK9
set_option linter.all false
namespace Go.Fer
open Go Go.Proofs Go.RowKit

def A20 : Account := ⟨20000, vz 32, 0⟩
def A15 : Account := ⟨15000, vz 32, 0⟩
def A14 : Account := ⟨14800, vz 32, 0⟩
def A02 : Account := ⟨200, vz 32, 0⟩
def qL : PI := ⟨2, [0, 1], dtL 200⟩
def livA : List Account := [A15, az, az]
def livB : List Account := [A14, A02, az]
theorem askL : askF (dtL 200) = some ⟨2, 200, 0, vz 32⟩ := by
 rw [askF2 (by decide) (by decide +kernel) (by decide)]
 have h : leN (((dtL 200).drop 4).take 8) = 200 := by decide +kernel
 rw [h]
theorem livDo : doF livA (rsL kk8 kk9) [0, 1] (dtL 200) = (0, 0, livB) := by
 have h : takF 2 (rsL kk8 kk9) [0, 1] = 0 := by simp [takF, need, lacks, rsL, roleErrs, roleErr]
 rw [doF_act (j := 1) rfl askL h (by decide) (by decide) rfl (by decide) (by decide)]
 rw [if_neg (by decide +kernel)]
 decide +kernel
theorem livZ : runL (rsL kk8 kk9) 400000 (-1) [qL] 0 ⟨0, 0, livA⟩ = (0, 1, ⟨150, 0, livB⟩) := by
 have h1 : stepF (rsL kk8 kk9) 400000 (-1) 0 qL ⟨0, 0, livA⟩ = (0, ⟨150, 0, livB⟩) := by
  rw [stepF_act (by decide) (by decide), actF_s (by rfl)]
  show (if (doF livA (rsL kk8 kk9) [0, 1] (dtL 200)).1 ≠ 0 then _ else _) = _
  rw [livDo]
  rfl
 unfold runL
 rw [h1]
 rfl
theorem liv_out (vi vr so : SlV) : outF (mvR vi vr) (rsL kk8 kk9) [qL] livA so = ⟨0, -1, 150, 5000, 0, so⟩ := by
 have h : runZ (mvR vi vr) (rsL kk8 kk9) [qL] livA = (0, 1, ⟨150, 0, livB⟩) := livZ
 unfold outF
 rw [h]
 rfl
def chL : List Holding := [⟨kk8, A14⟩, ⟨kk9, A02⟩]
theorem liv_chg (vi vr : SlV) : chgF (rsL kk8 kk9) (accF (mvR vi vr) (rsL kk8 kk9) [qL] livA) = chL := by
 have h : runZ (mvR vi vr) (rsL kk8 kk9) [qL] livA = (0, 1, ⟨150, 0, livB⟩) := livZ
 unfold accF
 rw [h]
 rfl
theorem liv_load {d : StD} (h : ∀ k, d.get k = if k = kk8 then A20 else az) : loadA d (rsL kk8 kk9) = [A20, az, az] := by
 unfold loadA rsL
 simp only [List.map_cons, List.map_nil, h]
 rw [if_pos trivial, if_neg kk_ne.1, if_neg kk_ne.2.1]
theorem livPaid : paidA 5000 [A20, az, az] = livA := by decide +kernel
theorem livPays : payB 5000 (rsL kk8 kk9) [A20, az, az] = true := by decide +kernel
theorem liv_bad (va vd : SlV) : badArg (rsL kk8 kk9) livA [⟨2, va, vd⟩] = false := rfl
theorem livA_ok : ∀ y ∈ livA, okW y := by
 intro y hy
 simp only [livA, List.mem_cons, List.not_mem_nil, or_false] at hy
 rcases hy with rfl | rfl | rfl <;> exact ⟨by decide, by decide⟩

theorem accParts (n : Nat) : setParts [#[.int .u64 0], Array.replicate 32 (.int .u8 0), #[.int .u64 0]] [(0, .int .u64 (n : Int))] = Account.parts ⟨n, vz 32, 0⟩ := by
 simp only [Account.parts, setParts, enc_vz]; rfl

set_option maxRecDepth 20000 in
set_option maxHeartbeats 1000000 in
theorem lives15 (w0 : World) (hg : ErrLaid w0) : Ret Tryz.prog 5 #[] w0 (fun r w' => r = .bool true ∧ Bel w0 w') := by
 refine Ret.enter (args := []) Tryz.func5 rfl Tryz.ntmps5 Tryz.results5 rfl ?_
 have hS := St.start w0
 have hll : livA.length = 3 := rfl
 have hcl : chL.length = 2 := rfl
 refine WC.seq (fun K1 hK1 => ?_)
 refine WC.region ?_
 refine WL.op rfl (opW.assignB rfl ?_)
 refine WL.nil ?_
 refine thenQ_n (hK1 _ _ ?_)
 refine WC.seq (fun K2 hK2 => ?_)
 refine WC.region ?_
 refine WL.op rfl (opW.buildVec (k := kk8) (by first | rfl | (simp only [sysK, az, budK, kk8, kk9, enc_vset, enc_vz]; rfl)) (by intro p hp; first | (exfalso; simp at hp; done) | (simp only [List.map_cons, List.map_nil, List.mem_cons, List.not_mem_nil, or_false] at hp; rcases hp with rfl | rfl | rfl | rfl <;> exact ⟨by simp, rfl⟩)) ?_)
 refine WL.op rfl (opW.allocA hS ?_)
 intro b1 w _ hS
 refine WL.op0 (opW.storeE hS rfl rfl (by repeat constructor) (by first | rfl | exact Enc.size_eq _) ?_)
 intro w hS; replace hS := hS _ (by repeat constructor)
 refine WL.nil ?_
 refine thenQ_n (hK2 _ _ ?_)
 refine WC.seq (fun K3 hK3 => ?_)
 refine WC.region ?_
 refine WL.op rfl (opW.buildVec (k := kk9) (by first | rfl | (simp only [sysK, az, budK, kk8, kk9, enc_vset, enc_vz]; rfl)) (by intro p hp; first | (exfalso; simp at hp; done) | (simp only [List.map_cons, List.map_nil, List.mem_cons, List.not_mem_nil, or_false] at hp; rcases hp with rfl | rfl | rfl | rfl <;> exact ⟨by simp, rfl⟩)) ?_)
 refine WL.op rfl (opW.allocA hS ?_)
 intro b2 w _ hS
 refine WL.op0 (opW.storeE hS rfl rfl (by repeat constructor) (by first | rfl | exact Enc.size_eq _) ?_)
 intro w hS; replace hS := hS _ (by repeat constructor)
 refine WL.nil ?_
 refine thenQ_n (hK3 _ _ ?_)
 refine WC.seq (fun K4 hK4 => ?_)
 refine WC.region ?_
 refine WL.op rfl (opW.call (new13 _) rfl ?_)
 rintro _ w ⟨p, d, rfl, hd0, hok0, hN, hw⟩; replace hS := hS.newE hw hN
 refine WL.op rfl (opW.assignV (v := .pointer (some ⟨p, 0, none⟩)) rfl ?_)
 refine WL.nil ?_
 refine thenQ_n (hK4 _ _ ?_)
 refine WC.seq (fun K5 hK5 => ?_)
 refine WC.region ?_
 refine WL.op rfl (opW.moveV (v := .pointer (some ⟨p, 0, none⟩)) rfl ?_)
 refine WL.op rfl (opW.loadV rfl (hS.ldA (b := b1) (cs := Enc.enc kk8) (by repeat constructor) (Enc.size_eq kk8)) ?_)
 refine WL.op rfl (opW.buildE (r := A20) (ps := Account.parts A20) (Account.enc_eq _) (by exact accParts 20000) (by exact fitO ⟨by decide, rfl, trivial⟩) ?_)
 refine WL.op rfl (opW.call (put13 w0 _ _ p d kk8 A20 (hS.pick (e := stE p d) (by repeat constructor))) rfl ?_)
 rintro _ w ⟨rfl, hS⟩
 obtain ⟨d1, hd1⟩ : ∃ x, d.put kk8 A20 = x := ⟨_, rfl⟩
 rw [hd1] at hS
 have hok1 : StOk d1 := hd1 ▸ hok0.put _ _
 have hg1 : ∀ k, d1.get k = if k = kk8 then A20 else az := fun k => by rw [← hd1, StD.get_put hok0, hd0]
 refine WL.nil ?_
 refine thenQ_n (hK5 _ _ ?_)
 refine WC.seq (fun K6 hK6 => ?_)
 refine WC.region ?_
 refine WL.op rfl (opW.loadV rfl (hS.ldA (b := b1) (cs := Enc.enc kk8) (by repeat constructor) (Enc.size_eq kk8)) ?_)
 refine WL.op rfl (opW.loadV rfl (hS.ldA (b := b2) (cs := Enc.enc kk9) (by repeat constructor) (Enc.size_eq kk9)) ?_)
 refine WL.op rfl (opW.call (move15 _ kk8 kk9 200) rfl ?_)
 rintro _ w ⟨va, vd, vi, vr, rfl, hN5⟩
 replace hS := hS.merge hN5
 simp only [List.cons_append, List.nil_append] at hS
 refine WL.op rfl (opW.allocA hS ?_)
 intro b4 w _ hS
 refine WL.op0 (opW.storeE hS rfl rfl (by repeat constructor) (by first | rfl | exact Enc.size_eq _) ?_)
 intro w hS; replace hS := hS _ (by repeat constructor)
 refine WL.nil ?_
 refine thenQ_n (hK6 _ _ ?_)
 refine WC.seq (fun K7 hK7 => ?_)
 refine WC.region ?_
 have hs1 : okS d1 := fun k => by rw [hg1 k]; split <;> exact ⟨by decide, by decide⟩
 have hld := liv_load hg1
 have hpd : paidA (mvR vi vr).fee [A20, az, az] = livA := livPaid
 have hP := hS.pick (e := stE p d1) (by repeat constructor)
 refine WL.op rfl (opW.moveV (v := .pointer (some ⟨p, 0, none⟩)) rfl ?_)
 refine WL.op rfl (opW.loadV rfl (hS.ldA (b := b4) (cs := Enc.enc (mvR vi vr)) (by repeat constructor) (Enc.size_eq (mvR vi vr))) ?_)
 refine WL.op rfl (opW.call (load15 w0 _ _ p d1 (mvR vi vr) (rsL kk8 kk9) hok1 hs1 (fun w hS => hS.sl (v := vr.v) (xs := (rsL kk8 kk9)) (by repeat constructor)) (by decide) hP) rfl ?_)
 rintro _ w ⟨d2, hd2, hok2, hL⟩
 rw [hld] at hL
 obtain ⟨_, sv, rfl, hS⟩ := hL.resolve_left (fun h => absurd (livPays.symm.trans h.1) (by decide))
 rw [hpd] at hS
 refine WL.op rfl (opW.moveV (v := .tuple #[sv.v, .int .i64 0]) rfl ?_)
 refine WL.op rfl (opW.extract rfl rfl ?_)
 refine WL.op rfl (opW.extract rfl rfl ?_)
 refine WL.op rfl (opW.assignV (v := sv.v) rfl ?_)
 refine WL.op rfl (opW.assignI rfl ?_)
 refine WL.nil ?_
 refine thenQ_n (hK7 _ _ ?_)
 refine WC.seq (fun K8 hK8 => ?_)
 refine WC.seq (fun K9 hK9 => ?_)
 refine WC.region ?_
 refine WL.op rfl (opW.moveI rfl ?_)
 refine WL.op rfl (opW.boolF (by decide) (opW.neq rfl rfl ⟨rfl, rfl⟩) ?_)
 refine WL.op rfl (opW.moveB rfl ?_)
 refine WL.gT 27 rfl rfl rfl (WL.op rfl (opW.moveV (v := sv.v) rfl ?_))
 refine WL.gT 27 rfl rfl rfl (WL.op rfl (opW.lenV rfl ((hS.sl (v := sv.v) (xs := livA) (by repeat constructor))) ?_))
 refine WL.gT 27 rfl rfl rfl (WL.op rfl (opW.boolF (by decide) (opW.neq rfl rfl ⟨rfl, rfl⟩) ?_))
 refine WL.op rfl (opW.pickT rfl rfl ?_)
 refine WL.op rfl (opW.moveB rfl ?_)
 refine WL.gT 32 rfl rfl rfl (WL.op rfl (opW.moveV (v := sv.v) rfl ?_))
 refine WL.gT 32 rfl rfl rfl (WL.op rfl (opW.idxV rfl ((hS.sl (v := sv.v) (xs := livA) (by repeat constructor))) rfl (by omega) ?_))
 refine WL.gT 32 rfl rfl rfl (WL.op rfl (opW.fieldAddr rfl ((hS.sl (v := sv.v) (xs := livA) (by repeat constructor)).isP (by decide)) ?_))
 refine WL.gT 32 rfl rfl rfl (WL.op rfl (opW.loadV rfl (Ld.pt1 ((hS.sl (v := sv.v) (xs := livA) (by repeat constructor)).isPt (by decide)) 0 (Account.at_coins _)) ?_))
 refine WL.gT 32 rfl rfl rfl (WL.op rfl (opW.boolF (by decide) (opW.neq rfl rfl ⟨rfl, rfl⟩) ?_))
 refine WL.op rfl (opW.pickT rfl rfl ?_)
 refine WL.op rfl (opW.moveB rfl ?_)
 refine WL.gT 39 rfl rfl rfl (WL.op rfl (opW.moveV (v := sv.v) rfl ?_))
 refine WL.gT 39 rfl rfl rfl (WL.op rfl (opW.idxV rfl ((hS.sl (v := sv.v) (xs := livA) (by repeat constructor))) rfl (by omega) ?_))
 refine WL.gT 39 rfl rfl rfl (WL.op rfl (opW.loadV rfl (((hS.sl (v := sv.v) (xs := livA) (by repeat constructor)).isPt (by decide)).ldA (Enc.size_eq az)) ?_))
 refine WL.gT 39 rfl rfl rfl (WL.op rfl (opW.buildE (r := az) (ps := Account.parts az) (Account.enc_eq _) (by exact azParts) (by exact trivial) ?_))
 refine WL.gT 39 rfl rfl rfl (WL.op rfl (opW.boolF (by decide) (opW.neqE rfl rfl ⟨rfl, rfl⟩) ?_))
 refine WL.op rfl (opW.pickT rfl rfl ?_)
 refine WL.nil ?_
 refine thenQ_n (hK9 _ _ ?_)
 refine WC.cond _ rfl (fun hc0 => ?_) (fun hc0 => ?_)
 ·
  have hr0 := hc0
  try simp only [sq1,sq2,sq3,sq4,sq5,sq6,sq7,sq8,sq9,sq0] at hc0
  cases hr0
 ·
  have hr0 := hc0
  try simp only [sq1,sq2,sq3,sq4,sq5,sq6,sq7,sq8,sq9,sq0] at hc0
  refine WC.skip ?_
  refine thenQ_n (hK8 _ _ ?_)
  refine WC.seq (fun K10 hK10 => ?_)
  refine WC.region ?_
  refine WL.op rfl (opW.loadV rfl (hS.ldA (b := b4) (cs := Enc.enc (mvR vi vr)) (by repeat constructor) (Enc.size_eq (mvR vi vr))) ?_)
  refine WL.op rfl (opW.moveV (v := sv.v) rfl ?_)
  refine WL.op rfl (opW.call (run_ok _ (mvR vi vr) sv livA (rsL kk8 kk9) [(⟨2, va, vd⟩ : Instr)] [qL] (hg.bel hS.old) (hS.sl (v := sv.v) (xs := livA) (by repeat constructor)) (hS.sl (v := vr.v) (xs := (rsL kk8 kk9)) (by repeat constructor)) (hS.sl (v := vi.v) (xs := ([(⟨2, va, vd⟩ : Instr)] : List Instr)) (by repeat constructor)) rfl (fun k h h2 => (by obtain rfl : k = 0 := (by simp at h; omega); exact ⟨rfl, hS.sl (v := va.v) (xs := ([0, 1] : List UInt8)) (by repeat constructor), hS.sl (v := vd.v) (xs := dtL 200) (by repeat constructor)⟩)) (show (400000 : Nat) < 18446744073709551616 from by decide) (by decide) (by decide) livA_ok) rfl ?_)
  rintro _ w hR
  obtain ⟨_, so, rfl, hn49, hw⟩ := hR.resolve_left (fun h => absurd ((liv_bad va vd).symm.trans h.1) (by decide))
  replace hS := hS.newOwn hw hn49.1 hn49.2
  rw [liv_chg] at hS
  rw [liv_out]
  refine WL.op rfl (opW.moveV (v := .tuple #[.agg (Enc.enc (⟨0, -1, 150, 5000, 0, so⟩ : Outcome)), .int .i64 0]) rfl ?_)
  refine WL.op rfl (opW.extract rfl rfl ?_)
  refine WL.op rfl (opW.extract rfl rfl ?_)
  refine WL.op rfl (opW.allocA hS ?_)
  intro b7 w _ hS
  refine WL.op0 (opW.storeE hS rfl rfl (by repeat constructor) (by first | rfl | exact Enc.size_eq _) ?_)
  intro w hS; replace hS := hS _ (by repeat constructor)
  refine WL.op rfl (opW.assignI rfl ?_)
  refine WL.nil ?_
  refine thenQ_n (hK10 _ _ ?_)
  refine WC.seq (fun K11 hK11 => ?_)
  refine WC.draw 54 (.look 0 (.look 1 (.look 2 (.look 3 (.look 4 (.look 5 (.look 6 (.look 7 (.look 8 (.look 9 (.look 10 (.look 11 (.look 12 (.look 13 (.look 14 (.look 15 (.look 16 (.look 17 (.look 18 (.look 19 (.look 20 (.look 21 (.look 22 (.look 23 (.look 24 (.look 25 (.look 26 (.look 27 (.look 28 (.look 29 (.look 30 (.look 31 (.look 32 (.look 33 (.look 34 (.look 35 (.look 36 (.look 37 (.look 38 (.look 39 (.look 40 (.look 41 (.look 42 (.look 43 (.look 44 (.look 45 (.look 46 (.look 47 (.look 48 (.look 49 (.look 50 (.look 51 (.look 52 (.look 53 .nil)))))))))))))))))))))))))))))))))))))))))))))))))))))) (by kernel_rfl) (fun _ _ _ h => h) (fun w1 hw1 => ?_)
  replace hS := hS.bel hw1
  have hS1 := hS
  have hT := St.start w1
  refine ML.look rfl rfl rfl (fun w hw => (by have hS := hS1.bel hw; exact opW.moveI rfl ⟨rfl, rfl⟩)) ?_
  refine ML.look rfl rfl rfl (fun w hw => (by have hS := hS1.bel hw; exact opW.boolT (by decide) (opW.eql rfl rfl ⟨rfl, rfl⟩) ⟨rfl, rfl⟩)) ?_
  refine ML.look rfl rfl rfl (fun w hw => (by have hS := hS1.bel hw; exact opW.moveB rfl ⟨rfl, rfl⟩)) ?_
  refine ML.lookT 54 rfl rfl rfl rfl rfl rfl (fun w hw => (by have hS := hS1.bel hw; exact opW.fieldAddrB rfl ⟨rfl, rfl⟩)) ?_
  refine ML.lookT 54 rfl rfl rfl rfl rfl rfl (fun w hw => (by have hS := hS1.bel hw; exact opW.loadV rfl (hS.ld1 (b := b7) (cs := Enc.enc (⟨0, -1, 150, 5000, 0, so⟩ : Outcome)) (by repeat constructor) (Outcome.at_fail (⟨0, -1, 150, 5000, 0, so⟩ : Outcome))) ⟨rfl, rfl⟩)) ?_
  refine ML.lookT 54 rfl rfl rfl rfl rfl rfl (fun w hw => (by have hS := hS1.bel hw; exact opW.boolT (rfl) (opW.eql rfl rfl ⟨rfl, rfl⟩) ⟨rfl, rfl⟩)) ?_
  refine ML.look rfl rfl rfl (fun w hw => (by have hS := hS1.bel hw; exact opW.pickT rfl rfl ⟨rfl, rfl⟩)) ?_
  refine ML.look rfl rfl rfl (fun w hw => (by have hS := hS1.bel hw; exact opW.moveB rfl ⟨rfl, rfl⟩)) ?_
  refine ML.lookT 59 rfl rfl rfl rfl rfl rfl (fun w hw => (by have hS := hS1.bel hw; exact opW.fieldAddrB rfl ⟨rfl, rfl⟩)) ?_
  refine ML.lookT 59 rfl rfl rfl rfl rfl rfl (fun w hw => (by have hS := hS1.bel hw; exact opW.loadV rfl (hS.ld1 (b := b7) (cs := Enc.enc (⟨0, -1, 150, 5000, 0, so⟩ : Outcome)) (by repeat constructor) (Outcome.at_at_ (⟨0, -1, 150, 5000, 0, so⟩ : Outcome))) ⟨rfl, rfl⟩)) ?_
  refine ML.lookT 59 rfl rfl rfl rfl rfl rfl (fun w hw => (by have hS := hS1.bel hw; exact opW.boolT (rfl) (opW.eql rfl rfl ⟨rfl, rfl⟩) ⟨rfl, rfl⟩)) ?_
  refine ML.look rfl rfl rfl (fun w hw => (by have hS := hS1.bel hw; exact opW.pickT rfl rfl ⟨rfl, rfl⟩)) ?_
  refine ML.look rfl rfl rfl (fun w hw => (by have hS := hS1.bel hw; exact opW.moveB rfl ⟨rfl, rfl⟩)) ?_
  refine ML.lookT 64 rfl rfl rfl rfl rfl rfl (fun w hw => (by have hS := hS1.bel hw; exact opW.fieldAddrB rfl ⟨rfl, rfl⟩)) ?_
  refine ML.lookT 64 rfl rfl rfl rfl rfl rfl (fun w hw => (by have hS := hS1.bel hw; exact opW.loadV rfl (hS.ld1 (b := b7) (cs := Enc.enc (⟨0, -1, 150, 5000, 0, so⟩ : Outcome)) (by repeat constructor) (Outcome.at_units (⟨0, -1, 150, 5000, 0, so⟩ : Outcome))) ⟨rfl, rfl⟩)) ?_
  refine ML.lookT 64 rfl rfl rfl rfl rfl rfl (fun w hw => (by have hS := hS1.bel hw; exact opW.boolT (rfl) (opW.eql rfl rfl ⟨rfl, rfl⟩) ⟨rfl, rfl⟩)) ?_
  refine ML.look rfl rfl rfl (fun w hw => (by have hS := hS1.bel hw; exact opW.pickT rfl rfl ⟨rfl, rfl⟩)) ?_
  refine ML.look rfl rfl rfl (fun w hw => (by have hS := hS1.bel hw; exact opW.moveB rfl ⟨rfl, rfl⟩)) ?_
  refine ML.lookT 69 rfl rfl rfl rfl rfl rfl (fun w hw => (by have hS := hS1.bel hw; exact opW.fieldAddrB rfl ⟨rfl, rfl⟩)) ?_
  refine ML.lookT 69 rfl rfl rfl rfl rfl rfl (fun w hw => (by have hS := hS1.bel hw; exact opW.loadV rfl (hS.ld1 (b := b7) (cs := Enc.enc (⟨0, -1, 150, 5000, 0, so⟩ : Outcome)) (by repeat constructor) (Outcome.at_fee (⟨0, -1, 150, 5000, 0, so⟩ : Outcome))) ⟨rfl, rfl⟩)) ?_
  refine ML.lookT 69 rfl rfl rfl rfl rfl rfl (fun w hw => (by have hS := hS1.bel hw; exact opW.boolT (rfl) (opW.eql rfl rfl ⟨rfl, rfl⟩) ⟨rfl, rfl⟩)) ?_
  refine ML.look rfl rfl rfl (fun w hw => (by have hS := hS1.bel hw; exact opW.pickT rfl rfl ⟨rfl, rfl⟩)) ?_
  refine ML.look rfl rfl rfl (fun w hw => (by have hS := hS1.bel hw; exact opW.moveB rfl ⟨rfl, rfl⟩)) ?_
  refine ML.lookT 74 rfl rfl rfl rfl rfl rfl (fun w hw => (by have hS := hS1.bel hw; exact opW.fieldAddrB rfl ⟨rfl, rfl⟩)) ?_
  refine ML.lookT 74 rfl rfl rfl rfl rfl rfl (fun w hw => (by have hS := hS1.bel hw; exact opW.loadV rfl (hS.ld1 (b := b7) (cs := Enc.enc (⟨0, -1, 150, 5000, 0, so⟩ : Outcome)) (by repeat constructor) (Outcome.at_space (⟨0, -1, 150, 5000, 0, so⟩ : Outcome))) ⟨rfl, rfl⟩)) ?_
  refine ML.lookT 74 rfl rfl rfl rfl rfl rfl (fun w hw => (by have hS := hS1.bel hw; exact opW.boolT (rfl) (opW.eql rfl rfl ⟨rfl, rfl⟩) ⟨rfl, rfl⟩)) ?_
  refine ML.look rfl rfl rfl (fun w hw => (by have hS := hS1.bel hw; exact opW.pickT rfl rfl ⟨rfl, rfl⟩)) ?_
  refine ML.look rfl rfl rfl (fun w hw => (by have hS := hS1.bel hw; exact opW.moveB rfl ⟨rfl, rfl⟩)) ?_
  refine ML.lookT 79 rfl rfl rfl rfl rfl rfl (fun w hw => (by have hS := hS1.bel hw; exact opW.fieldAddrB rfl ⟨rfl, rfl⟩)) ?_
  refine ML.lookT 79 rfl rfl rfl rfl rfl rfl (fun w hw => (by have hS := hS1.bel hw; exact opW.loadV rfl (hS.ld1 (b := b7) (cs := Enc.enc (⟨0, -1, 150, 5000, 0, so⟩ : Outcome)) (by repeat constructor) (Outcome.at_changed (⟨0, -1, 150, 5000, 0, so⟩ : Outcome))) ⟨rfl, rfl⟩)) ?_
  refine ML.lookT 79 rfl rfl rfl rfl rfl rfl (fun w hw => (by have hS := hS1.bel hw; exact opW.lenV rfl ((hS.sl (v := so.v) (xs := chL) (by repeat constructor))) ⟨rfl, rfl⟩)) ?_
  refine ML.lookT 79 rfl rfl rfl rfl rfl rfl (fun w hw => (by have hS := hS1.bel hw; exact opW.boolT (by decide) (opW.eql rfl rfl ⟨rfl, rfl⟩) ⟨rfl, rfl⟩)) ?_
  refine ML.look rfl rfl rfl (fun w hw => (by have hS := hS1.bel hw; exact opW.pickT rfl rfl ⟨rfl, rfl⟩)) ?_
  refine ML.look rfl rfl rfl (fun w hw => (by have hS := hS1.bel hw; exact opW.moveB rfl ⟨rfl, rfl⟩)) ?_
  refine ML.lookT 85 rfl rfl rfl rfl rfl rfl (fun w hw => (by have hS := hS1.bel hw; exact opW.fieldAddrB rfl ⟨rfl, rfl⟩)) ?_
  refine ML.lookT 85 rfl rfl rfl rfl rfl rfl (fun w hw => (by have hS := hS1.bel hw; exact opW.loadV rfl (hS.ld1 (b := b7) (cs := Enc.enc (⟨0, -1, 150, 5000, 0, so⟩ : Outcome)) (by repeat constructor) (Outcome.at_changed (⟨0, -1, 150, 5000, 0, so⟩ : Outcome))) ⟨rfl, rfl⟩)) ?_
  refine ML.lookT 85 rfl rfl rfl rfl rfl rfl (fun w hw => (by have hS := hS1.bel hw; exact opW.idxV rfl ((hS.sl (v := so.v) (xs := chL) (by repeat constructor))) rfl (by omega) ⟨rfl, rfl⟩)) ?_
  refine ML.lookT 85 rfl rfl rfl rfl rfl rfl (fun w hw => (by have hS := hS1.bel hw; exact opW.loadV rfl (((hS.sl (v := so.v) (xs := chL) (by repeat constructor)).isPt (by decide)).ldA (Enc.size_eq (⟨kk8, A14⟩ : Holding))) ⟨rfl, rfl⟩)) ?_
  refine ML.lookT 85 rfl rfl rfl rfl rfl rfl (fun w hw => (by have hS := hS1.bel hw; exact opW.loadV rfl (hS.ldA (b := b1) (cs := Enc.enc kk8) (by repeat constructor) (Enc.size_eq kk8)) ⟨rfl, rfl⟩)) ?_
  refine ML.lookT 85 rfl rfl rfl rfl rfl rfl (fun w hw => (by have hS := hS1.bel hw; exact opW.buildE (r := A14) (ps := Account.parts A14) (Account.enc_eq _) (by exact accParts 14800) (by exact fitO ⟨by decide, rfl, trivial⟩) ⟨rfl, rfl⟩)) ?_
  refine ML.lookT 85 rfl rfl rfl rfl rfl rfl (fun w hw => (by have hS := hS1.bel hw; exact opW.buildE (r := (⟨kk8, A14⟩ : Holding)) (ps := Holding.parts ⟨kk8, A14⟩) (Holding.enc_eq _) (by exact rfl) (by exact fitO ⟨by decide, Enc.size_eq kk8, by decide, Enc.size_eq A14, trivial⟩) ⟨rfl, rfl⟩)) ?_
  refine ML.lookT 85 rfl rfl rfl rfl rfl rfl (fun w hw => (by have hS := hS1.bel hw; exact opW.boolT (by decide) (opW.eqlE rfl rfl ⟨rfl, rfl⟩) ⟨rfl, rfl⟩)) ?_
  refine ML.look rfl rfl rfl (fun w hw => (by have hS := hS1.bel hw; exact opW.pickT rfl rfl ⟨rfl, rfl⟩)) ?_
  refine ML.look rfl rfl rfl (fun w hw => (by have hS := hS1.bel hw; exact opW.moveB rfl ⟨rfl, rfl⟩)) ?_
  refine ML.lookT 95 rfl rfl rfl rfl rfl rfl (fun w hw => (by have hS := hS1.bel hw; exact opW.fieldAddrB rfl ⟨rfl, rfl⟩)) ?_
  refine ML.lookT 95 rfl rfl rfl rfl rfl rfl (fun w hw => (by have hS := hS1.bel hw; exact opW.loadV rfl (hS.ld1 (b := b7) (cs := Enc.enc (⟨0, -1, 150, 5000, 0, so⟩ : Outcome)) (by repeat constructor) (Outcome.at_changed (⟨0, -1, 150, 5000, 0, so⟩ : Outcome))) ⟨rfl, rfl⟩)) ?_
  refine ML.lookT 95 rfl rfl rfl rfl rfl rfl (fun w hw => (by have hS := hS1.bel hw; exact opW.idxV rfl ((hS.sl (v := so.v) (xs := chL) (by repeat constructor))) rfl (by omega) ⟨rfl, rfl⟩)) ?_
  refine ML.lookT 95 rfl rfl rfl rfl rfl rfl (fun w hw => (by have hS := hS1.bel hw; exact opW.loadV rfl (((hS.sl (v := so.v) (xs := chL) (by repeat constructor)).isPt (by decide)).ldA (Enc.size_eq (⟨kk9, A02⟩ : Holding))) ⟨rfl, rfl⟩)) ?_
  refine ML.lookT 95 rfl rfl rfl rfl rfl rfl (fun w hw => (by have hS := hS1.bel hw; exact opW.loadV rfl (hS.ldA (b := b2) (cs := Enc.enc kk9) (by repeat constructor) (Enc.size_eq kk9)) ⟨rfl, rfl⟩)) ?_
  refine ML.lookT 95 rfl rfl rfl rfl rfl rfl (fun w hw => (by have hS := hS1.bel hw; exact opW.buildE (r := A02) (ps := Account.parts A02) (Account.enc_eq _) (by exact accParts 200) (by exact fitO ⟨by decide, rfl, trivial⟩) ⟨rfl, rfl⟩)) ?_
  refine ML.lookT 95 rfl rfl rfl rfl rfl rfl (fun w hw => (by have hS := hS1.bel hw; exact opW.buildE (r := (⟨kk9, A02⟩ : Holding)) (ps := Holding.parts ⟨kk9, A02⟩) (Holding.enc_eq _) (by exact rfl) (by exact fitO ⟨by decide, Enc.size_eq kk9, by decide, Enc.size_eq A02, trivial⟩) ⟨rfl, rfl⟩)) ?_
  refine ML.lookT 95 rfl rfl rfl rfl rfl rfl (fun w hw => (by have hS := hS1.bel hw; exact opW.boolT (by decide) (opW.eqlE rfl rfl ⟨rfl, rfl⟩) ⟨rfl, rfl⟩)) ?_
  refine ML.look rfl rfl rfl (fun w hw => (by have hS := hS1.bel hw; exact opW.pickT rfl rfl ⟨rfl, rfl⟩)) ?_
  refine ML.look rfl rfl rfl (fun w hw => (by have hS := hS1.bel hw; exact opW.assignB rfl ⟨rfl, rfl⟩)) ?_
  refine ML.nil ?_
  refine thenQ_n (hK11 _ _ ?_)
  refine WC.ret ?_
  refine bodyQ_ret (.tmpB rfl .nil) ?_
  exact ⟨rfl, hS.old⟩

end Go.Fer
