/- a transaction that moves coins -/
import Derived.Test.YtmibkfdpgmohfaaGreatDoorL2
set_option linter.all false
namespace Go.Fer
open Go Go.Proofs Go.RowKit

def FitO (zs : List (Array Value)) : List (Nat × Value) → Prop
 | [] => True
 | (i, v) :: r => i < zs.length ∧ v.cells.size = (zs.getD i #[]).size ∧ FitO zs r
theorem fitO_set {zs : List (Array Value)} {i : Nat} {v : Array Value} (h : v.size = (zs.getD i #[]).size) : ∀ {r : List (Nat × Value)}, FitO zs r → FitO (zs.set i v) r
 | [], _ => trivial
 | (j, u) :: r, ⟨h1, h2, h3⟩ => by
  refine ⟨by rw [List.length_set]; exact h1, ?_, fitO_set h h3⟩
  rw [h2]
  simp only [List.getD_eq_getElem?_getD, List.getElem?_set]
  by_cases hij : i = j
  ·subst hij
   rw [if_pos rfl, if_pos h1]
   simp only [List.getD_eq_getElem?_getD] at h
   exact h.symm
  ·rw [if_neg hij]
theorem fitO : ∀ {parts : List (Nat × Value)} {zs : List (Array Value)}, FitO zs parts → partsFit zs parts
 | [], _, _ => trivial
 | (_, _) :: _, _, ⟨h1, h2, h3⟩ => ⟨h1, h2, fitO (fitO_set h2 h3)⟩
def kk8 : Key := (vz 32).set 0 8
def kk9 : Key := (vz 32).set 0 9
theorem kk_ne : kk9 ≠ kk8 ∧ sysK ≠ kk8 ∧ sysK ≠ kk9 := by decide +kernel
def dtL (n : UInt8) : List UInt8 := [2, 0, 0, 0, n, 0, 0, 0, 0, 0, 0, 0]
def rsL (p q : Key) : List Role := [⟨p, true, true⟩, ⟨q, false, true⟩, ⟨sysK, false, false⟩]
def mvM (vi : SlV) : Message := ⟨false, ⟨0, 0, 0⟩, ⟨none, 0, 0⟩, vz 32, vi, ⟨none, 0, 0⟩⟩
def mvT (vi : SlV) : Tx := ⟨⟨none, 0, 0⟩, mvM vi⟩
def mvR (vi vr : SlV) : Ready := ⟨⟨none, 0, 0⟩, mvT vi, vr, ⟨400000, 0, -1⟩, 5000, 0, 0⟩

set_option maxHeartbeats 1000000 in
theorem move15 (w0 : World) (p q : Key) (n : UInt8) : Ret Tryz.prog 17 #[.agg (Enc.enc p), .agg (Enc.enc q), .int .u8 (n.toNat : Int)] w0 (fun u w' => ∃ va vd vi vr : SlV, u = .agg (Enc.enc (mvR vi vr)) ∧ St w0 [ownE va.v 5 ([0, 1] : List UInt8), ownE vd.v 5 (dtL n), ownE vi.v 61 ([⟨2, va, vd⟩] : List Instr), ownE vr.v 91 (rsL p q)] w') := by
 refine Ret.enter (args := [.agg (Enc.enc p), .agg (Enc.enc q), .int .u8 (n.toNat : Int)]) Tryz.func17 rfl Tryz.ntmps17 Tryz.results17 rfl ?_
 have hS := St.start w0
 refine WC.seq (fun K1 hK1 => ?_)
 refine WC.region ?_
 refine WL.op rfl (opW.boxA hS rfl ?_)
 intro b3 w _ hS
 refine WL.op rfl (opW.boxA hS rfl ?_)
 intro b4 w _ hS
 refine WL.op rfl (opW.allocA hS ?_)
 intro b6 w _ hS
 refine WL.nil ?_
 refine thenQ_n (hK1 _ _ ?_)
 refine WC.seq (fun K2 hK2 => ?_)
 refine WC.region ?_
 refine WL.op rfl (opW.buildSl hS (([0, 1] : List UInt8)) [.int .u8 0, .int .u8 1] rfl rfl rfl rfl (by decide) ?_)
 intro b8 w hw hS
 refine WL.op rfl (opW.moveI rfl ?_)
 refine WL.op rfl (opW.buildSl hS ((dtL n)) [.int .u8 2, .int .u8 0, .int .u8 0, .int .u8 0, .int .u8 (n.toNat : Int), .int .u8 0, .int .u8 0, .int .u8 0, .int .u8 0, .int .u8 0, .int .u8 0, .int .u8 0] rfl rfl rfl rfl (by decide) ?_)
 intro b10 w hw hS
 refine WL.op rfl (opW.buildE (r := ((⟨2, (⟨some ⟨b8, 0, none⟩, 2, 2⟩ : SlV), (⟨some ⟨b10, 0, none⟩, 12, 12⟩ : SlV)⟩ : Instr) : Instr)) (ps := Instr.parts ((⟨2, (⟨some ⟨b8, 0, none⟩, 2, 2⟩ : SlV), (⟨some ⟨b10, 0, none⟩, 12, 12⟩ : SlV)⟩ : Instr) : Instr)) (Instr.enc_eq _) (by first | rfl | (simp only [sysK, az, budK, kk8, kk9, enc_vset, enc_vz, Account.enc_eq, Account.parts, Role.enc_eq, Role.parts, Instr.enc_eq, Instr.parts, Ask.enc_eq, Ask.parts, Cut.enc_eq, Cut.parts, PairS.enc_eq, PairS.parts, RAsk.enc_eq, RAsk.parts, Header.enc_eq, Header.parts, Lookup.enc_eq, Lookup.parts, Message.enc_eq, Message.parts, Tx.enc_eq, Tx.parts, Budget.enc_eq, Budget.parts, Ready.enc_eq, Ready.parts, Holding.enc_eq, Holding.parts, Outcome.enc_eq, Outcome.parts, Running.enc_eq, Running.parts, StS.enc_eq, StS.parts]; rfl)) (by (repeat' (first | exact trivial | refine And.intro ?_ ?_)) <;> first | rfl | exact Enc.size_eq _ | (simp; done)) ?_)
 refine WL.op rfl (opW.allocA hS ?_)
 intro b7 w _ hS
 refine WL.op0 (opW.storeE hS rfl rfl (by repeat constructor) (by first | rfl | exact Enc.size_eq _) ?_)
 intro w hS; replace hS := hS _ (by repeat constructor)
 refine WL.nil ?_
 refine thenQ_n (hK2 _ _ ?_)
 refine WC.seq (fun K3 hK3 => ?_)
 refine WC.draw 13 (.look 0 (.look 4 (.look 5 (.look 6 (.look 7 (.look 11 (.fork 1 8 (.look 2 (.look 3 (.one 8 (.look 9 (.one 10 (.look 12 (.one 13 .nil))))))) (.look 9 (.fork 1 10 (.look 2 (.look 3 (.one 10 (.look 12 (.one 13 .nil))))) (.one 1 (.look 2 (.look 3 (.look 12 (.one 13 .nil)))))))))))))) (by kernel_rfl) (fun _ _ _ h => h) (fun w1 hw1 => ?_)
 replace hS := hS.bel hw1
 have hS1 := hS
 have hT := St.start w1
 refine ML.look rfl rfl rfl (fun w hw => (by have hS := hS1.bel hw; exact opW.loadV rfl (hS.ldA (b := b7) (cs := Enc.enc (⟨2, (⟨some ⟨b8, 0, none⟩, 2, 2⟩ : SlV), (⟨some ⟨b10, 0, none⟩, 12, 12⟩ : SlV)⟩ : Instr)) (by repeat constructor) (Enc.size_eq (⟨2, (⟨some ⟨b8, 0, none⟩, 2, 2⟩ : SlV), (⟨some ⟨b10, 0, none⟩, 12, 12⟩ : SlV)⟩ : Instr))) ⟨rfl, rfl⟩)) ?_
 refine ML.look rfl rfl rfl (fun w hw => (by have hS := hS1.bel hw; exact opW.loadV rfl (hS.ldA (b := b3) (cs := Enc.enc p) (by repeat constructor) (Enc.size_eq p)) ⟨rfl, rfl⟩)) ?_
 refine ML.look rfl rfl rfl (fun w hw => (by have hS := hS1.bel hw; exact opW.buildE (r := (⟨p, true, true⟩ : Role)) (ps := Role.parts ⟨p, true, true⟩) (Role.enc_eq _) (by exact rfl) (by exact fitO ⟨by decide, Enc.size_eq p, by decide, rfl, by decide, rfl, trivial⟩) ⟨rfl, rfl⟩)) ?_
 refine ML.look rfl rfl rfl (fun w hw => (by have hS := hS1.bel hw; exact opW.loadV rfl (hS.ldA (b := b4) (cs := Enc.enc q) (by repeat constructor) (Enc.size_eq q)) ⟨rfl, rfl⟩)) ?_
 refine ML.look rfl rfl rfl (fun w hw => (by have hS := hS1.bel hw; exact opW.buildE (r := (⟨q, false, true⟩ : Role)) (ps := Role.parts ⟨q, false, true⟩) (Role.enc_eq _) (by exact rfl) (by exact fitO ⟨by decide, Enc.size_eq q, by decide, rfl, trivial⟩) ⟨rfl, rfl⟩)) ?_
 refine ML.look rfl rfl rfl (fun w hw => (by have hS := hS1.bel hw; exact opW.buildE (r := ((⟨400000, 0, -1⟩ : Budget) : Budget)) (ps := Budget.parts ((⟨400000, 0, -1⟩ : Budget) : Budget)) (Budget.enc_eq _) (by first | rfl | (simp only [sysK, az, budK, kk8, kk9, enc_vset, enc_vz, Account.enc_eq, Account.parts, Role.enc_eq, Role.parts, Instr.enc_eq, Instr.parts, Ask.enc_eq, Ask.parts, Cut.enc_eq, Cut.parts, PairS.enc_eq, PairS.parts, RAsk.enc_eq, RAsk.parts, Header.enc_eq, Header.parts, Lookup.enc_eq, Lookup.parts, Message.enc_eq, Message.parts, Tx.enc_eq, Tx.parts, Budget.enc_eq, Budget.parts, Ready.enc_eq, Ready.parts, Holding.enc_eq, Holding.parts, Outcome.enc_eq, Outcome.parts, Running.enc_eq, Running.parts, StS.enc_eq, StS.parts]; rfl)) (by (repeat' (first | exact trivial | refine And.intro ?_ ?_)) <;> first | rfl | exact Enc.size_eq _ | (simp; done)) ⟨rfl, rfl⟩)) ?_
 refine ML.fork rfl rfl rfl rfl ?_ ?_ 
 ·refine opW.buildSl hT (([(⟨2, (⟨some ⟨b8, 0, none⟩, 2, 2⟩ : SlV), (⟨some ⟨b10, 0, none⟩, 12, 12⟩ : SlV)⟩ : Instr)] : List Instr)) [.agg (Enc.enc (⟨2, (⟨some ⟨b8, 0, none⟩, 2, 2⟩ : SlV), (⟨some ⟨b10, 0, none⟩, 12, 12⟩ : SlV)⟩ : Instr))] rfl rfl rfl rfl (by decide) ?_
  intro b13 w hw hT
  refine ⟨hT.old, ?_⟩
  have hS := hS1.merge hT
  try simp only [List.cons_append, List.nil_append] at hS
  refine ML.look rfl rfl rfl (fun w hw => (by have hS := hS1.bel hw; exact opW.buildE (r := mvM (⟨some ⟨b13, 0, none⟩, 1, 1⟩ : SlV)) (ps := Message.parts (mvM (⟨some ⟨b13, 0, none⟩, 1, 1⟩ : SlV))) (Message.enc_eq _) (by simp only [mvM, Message.parts, enc_vz, Header.enc_eq, Header.parts]; rfl) (by (repeat' (first | exact trivial | refine And.intro ?_ ?_)) <;> first | rfl | exact Enc.size_eq _ | (simp; done)) ⟨rfl, rfl⟩)) ?_
  refine ML.look rfl rfl rfl (fun w hw => (by have hS := hS1.bel hw; exact opW.buildE (r := mvT (⟨some ⟨b13, 0, none⟩, 1, 1⟩ : SlV)) (ps := Tx.parts (mvT (⟨some ⟨b13, 0, none⟩, 1, 1⟩ : SlV))) (Tx.enc_eq _) (by exact rfl) (by exact fitO ⟨by decide, Enc.size_eq (mvM (⟨some ⟨b13, 0, none⟩, 1, 1⟩ : SlV)), trivial⟩) ⟨rfl, rfl⟩)) ?_
  refine ML.one rfl rfl rfl (opW.call (sys_ok _) rfl ?_)
  rintro _ w ⟨rfl, hw⟩; replace hT := hT.bel hw
  refine ⟨hT.old, ?_⟩
  have hS := hS1.merge hT
  try simp only [List.cons_append, List.nil_append] at hS
  refine ML.look rfl rfl rfl (fun w hw => (by have hS := hS1.bel hw; exact opW.buildE (r := (⟨sysK, false, false⟩ : Role)) (ps := Role.parts ⟨sysK, false, false⟩) (Role.enc_eq _) (by exact rfl) (by exact fitO ⟨by decide, Enc.size_eq sysK, trivial⟩) ⟨rfl, rfl⟩)) ?_
  refine ML.one rfl rfl rfl (opW.buildSl hT ((rsL p q : List Role)) [.agg (Enc.enc (⟨p, true, true⟩ : Role)), .agg (Enc.enc (⟨q, false, true⟩ : Role)), .agg (Enc.enc (⟨sysK, false, false⟩ : Role))] rfl rfl rfl rfl (by decide) ?_)
  intro b22 w hw hT
  refine ⟨hT.old, ?_⟩
  have hS := hS1.merge hT
  try simp only [List.cons_append, List.nil_append] at hS
  refine ML.look rfl rfl rfl (fun w hw => (by have hS := hS1.bel hw; exact opW.buildE (r := mvR (⟨some ⟨b13, 0, none⟩, 1, 1⟩ : SlV) (⟨some ⟨b22, 0, none⟩, 3, 3⟩ : SlV)) (ps := Ready.parts (mvR (⟨some ⟨b13, 0, none⟩, 1, 1⟩ : SlV) (⟨some ⟨b22, 0, none⟩, 3, 3⟩ : SlV))) (Ready.enc_eq _) (by exact rfl) (by exact fitO ⟨by decide, Enc.size_eq (mvT (⟨some ⟨b13, 0, none⟩, 1, 1⟩ : SlV)), by decide, rfl, by decide, Enc.size_eq (⟨400000, 0, -1⟩ : Budget), by decide, rfl, trivial⟩) ⟨rfl, rfl⟩)) ?_
  refine ML.put0 rfl rfl rfl (opW.storeE hS rfl rfl (by repeat constructor) (by first | rfl | exact Enc.size_eq _) ?_)
  intro w hS; replace hS := hS _ (by repeat constructor)
  refine ML.nil ?_
  refine thenQ_n (hK3 _ _ ?_)
  refine WC.ret ?_
  refine bodyQ_ret (.cell (hS.ldA (b := b6) (cs := Enc.enc (mvR (⟨some ⟨b13, 0, none⟩, 1, 1⟩ : SlV) (⟨some ⟨b22, 0, none⟩, 3, 3⟩ : SlV))) (by repeat constructor) (Enc.size_eq (mvR (⟨some ⟨b13, 0, none⟩, 1, 1⟩ : SlV) (⟨some ⟨b22, 0, none⟩, 3, 3⟩ : SlV)))) .nil) ?_
  exact ⟨(⟨some ⟨b8, 0, none⟩, 2, 2⟩ : SlV), (⟨some ⟨b10, 0, none⟩, 12, 12⟩ : SlV), (⟨some ⟨b13, 0, none⟩, 1, 1⟩ : SlV), (⟨some ⟨b22, 0, none⟩, 3, 3⟩ : SlV), rfl, ((((hS.pick (e := ownE (⟨some ⟨b22, 0, none⟩, 3, 3⟩ : SlV).v 91 (rsL p q)) (by repeat constructor)).pick (e := ownE (⟨some ⟨b13, 0, none⟩, 1, 1⟩ : SlV).v 61 ([(⟨2, (⟨some ⟨b8, 0, none⟩, 2, 2⟩ : SlV), (⟨some ⟨b10, 0, none⟩, 12, 12⟩ : SlV)⟩ : Instr)] : List Instr)) (by repeat constructor)).pick (e := ownE (⟨some ⟨b10, 0, none⟩, 12, 12⟩ : SlV).v 5 (dtL n)) (by repeat constructor)).pick (e := ownE (⟨some ⟨b8, 0, none⟩, 2, 2⟩ : SlV).v 5 ([0, 1] : List UInt8)) (by repeat constructor)).sub (by repeat with_reducible first | exact su1 _ | exact su2 _ | refine su3 ?_ | refine su4 ?_)⟩
 ·refine opW.call (sys_ok _) rfl ?_
  rintro _ w ⟨rfl, hw⟩; replace hT := hT.bel hw
  refine ⟨hT.old, ?_⟩
  have hS := hS1.merge hT
  try simp only [List.cons_append, List.nil_append] at hS
  refine ML.look rfl rfl rfl (fun w hw => (by have hS := hS1.bel hw; exact opW.buildE (r := (⟨sysK, false, false⟩ : Role)) (ps := Role.parts ⟨sysK, false, false⟩) (Role.enc_eq _) (by exact rfl) (by exact fitO ⟨by decide, Enc.size_eq sysK, trivial⟩) ⟨rfl, rfl⟩)) ?_
  refine ML.fork rfl rfl rfl rfl ?_ ?_ 
  ·refine opW.buildSl hT (([(⟨2, (⟨some ⟨b8, 0, none⟩, 2, 2⟩ : SlV), (⟨some ⟨b10, 0, none⟩, 12, 12⟩ : SlV)⟩ : Instr)] : List Instr)) [.agg (Enc.enc (⟨2, (⟨some ⟨b8, 0, none⟩, 2, 2⟩ : SlV), (⟨some ⟨b10, 0, none⟩, 12, 12⟩ : SlV)⟩ : Instr))] rfl rfl rfl rfl (by decide) ?_
   intro b13 w hw hT
   refine ⟨hT.old, ?_⟩
   have hS := hS1.merge hT
   try simp only [List.cons_append, List.nil_append] at hS
   refine ML.look rfl rfl rfl (fun w hw => (by have hS := hS1.bel hw; exact opW.buildE (r := mvM (⟨some ⟨b13, 0, none⟩, 1, 1⟩ : SlV)) (ps := Message.parts (mvM (⟨some ⟨b13, 0, none⟩, 1, 1⟩ : SlV))) (Message.enc_eq _) (by simp only [mvM, Message.parts, enc_vz, Header.enc_eq, Header.parts]; rfl) (by (repeat' (first | exact trivial | refine And.intro ?_ ?_)) <;> first | rfl | exact Enc.size_eq _ | (simp; done)) ⟨rfl, rfl⟩)) ?_
   refine ML.look rfl rfl rfl (fun w hw => (by have hS := hS1.bel hw; exact opW.buildE (r := mvT (⟨some ⟨b13, 0, none⟩, 1, 1⟩ : SlV)) (ps := Tx.parts (mvT (⟨some ⟨b13, 0, none⟩, 1, 1⟩ : SlV))) (Tx.enc_eq _) (by exact rfl) (by exact fitO ⟨by decide, Enc.size_eq (mvM (⟨some ⟨b13, 0, none⟩, 1, 1⟩ : SlV)), trivial⟩) ⟨rfl, rfl⟩)) ?_
   refine ML.one rfl rfl rfl (opW.buildSl hT ((rsL p q : List Role)) [.agg (Enc.enc (⟨p, true, true⟩ : Role)), .agg (Enc.enc (⟨q, false, true⟩ : Role)), .agg (Enc.enc (⟨sysK, false, false⟩ : Role))] rfl rfl rfl rfl (by decide) ?_)
   intro b22 w hw hT
   refine ⟨hT.old, ?_⟩
   have hS := hS1.merge hT
   try simp only [List.cons_append, List.nil_append] at hS
   refine ML.look rfl rfl rfl (fun w hw => (by have hS := hS1.bel hw; exact opW.buildE (r := mvR (⟨some ⟨b13, 0, none⟩, 1, 1⟩ : SlV) (⟨some ⟨b22, 0, none⟩, 3, 3⟩ : SlV)) (ps := Ready.parts (mvR (⟨some ⟨b13, 0, none⟩, 1, 1⟩ : SlV) (⟨some ⟨b22, 0, none⟩, 3, 3⟩ : SlV))) (Ready.enc_eq _) (by exact rfl) (by exact fitO ⟨by decide, Enc.size_eq (mvT (⟨some ⟨b13, 0, none⟩, 1, 1⟩ : SlV)), by decide, rfl, by decide, Enc.size_eq (⟨400000, 0, -1⟩ : Budget), by decide, rfl, trivial⟩) ⟨rfl, rfl⟩)) ?_
   refine ML.put0 rfl rfl rfl (opW.storeE hS rfl rfl (by repeat constructor) (by first | rfl | exact Enc.size_eq _) ?_)
   intro w hS; replace hS := hS _ (by repeat constructor)
   refine ML.nil ?_
   refine thenQ_n (hK3 _ _ ?_)
   refine WC.ret ?_
   refine bodyQ_ret (.cell (hS.ldA (b := b6) (cs := Enc.enc (mvR (⟨some ⟨b13, 0, none⟩, 1, 1⟩ : SlV) (⟨some ⟨b22, 0, none⟩, 3, 3⟩ : SlV))) (by repeat constructor) (Enc.size_eq (mvR (⟨some ⟨b13, 0, none⟩, 1, 1⟩ : SlV) (⟨some ⟨b22, 0, none⟩, 3, 3⟩ : SlV)))) .nil) ?_
   exact ⟨(⟨some ⟨b8, 0, none⟩, 2, 2⟩ : SlV), (⟨some ⟨b10, 0, none⟩, 12, 12⟩ : SlV), (⟨some ⟨b13, 0, none⟩, 1, 1⟩ : SlV), (⟨some ⟨b22, 0, none⟩, 3, 3⟩ : SlV), rfl, ((((hS.pick (e := ownE (⟨some ⟨b22, 0, none⟩, 3, 3⟩ : SlV).v 91 (rsL p q)) (by repeat constructor)).pick (e := ownE (⟨some ⟨b13, 0, none⟩, 1, 1⟩ : SlV).v 61 ([(⟨2, (⟨some ⟨b8, 0, none⟩, 2, 2⟩ : SlV), (⟨some ⟨b10, 0, none⟩, 12, 12⟩ : SlV)⟩ : Instr)] : List Instr)) (by repeat constructor)).pick (e := ownE (⟨some ⟨b10, 0, none⟩, 12, 12⟩ : SlV).v 5 (dtL n)) (by repeat constructor)).pick (e := ownE (⟨some ⟨b8, 0, none⟩, 2, 2⟩ : SlV).v 5 ([0, 1] : List UInt8)) (by repeat constructor)).sub (by repeat with_reducible first | exact su1 _ | exact su2 _ | refine su3 ?_ | refine su4 ?_)⟩
  ·refine opW.buildSl hT ((rsL p q : List Role)) [.agg (Enc.enc (⟨p, true, true⟩ : Role)), .agg (Enc.enc (⟨q, false, true⟩ : Role)), .agg (Enc.enc (⟨sysK, false, false⟩ : Role))] rfl rfl rfl rfl (by decide) ?_
   intro b22 w hw hT
   refine ⟨hT.old, ?_⟩
   have hS := hS1.merge hT
   try simp only [List.cons_append, List.nil_append] at hS
   refine ML.one rfl rfl rfl (opW.buildSl hT (([(⟨2, (⟨some ⟨b8, 0, none⟩, 2, 2⟩ : SlV), (⟨some ⟨b10, 0, none⟩, 12, 12⟩ : SlV)⟩ : Instr)] : List Instr)) [.agg (Enc.enc (⟨2, (⟨some ⟨b8, 0, none⟩, 2, 2⟩ : SlV), (⟨some ⟨b10, 0, none⟩, 12, 12⟩ : SlV)⟩ : Instr))] rfl rfl rfl rfl (by decide) ?_)
   intro b13 w hw hT
   refine ⟨hT.old, ?_⟩
   have hS := hS1.merge hT
   try simp only [List.cons_append, List.nil_append] at hS
   refine ML.look rfl rfl rfl (fun w hw => (by have hS := hS1.bel hw; exact opW.buildE (r := mvM (⟨some ⟨b13, 0, none⟩, 1, 1⟩ : SlV)) (ps := Message.parts (mvM (⟨some ⟨b13, 0, none⟩, 1, 1⟩ : SlV))) (Message.enc_eq _) (by simp only [mvM, Message.parts, enc_vz, Header.enc_eq, Header.parts]; rfl) (by (repeat' (first | exact trivial | refine And.intro ?_ ?_)) <;> first | rfl | exact Enc.size_eq _ | (simp; done)) ⟨rfl, rfl⟩)) ?_
   refine ML.look rfl rfl rfl (fun w hw => (by have hS := hS1.bel hw; exact opW.buildE (r := mvT (⟨some ⟨b13, 0, none⟩, 1, 1⟩ : SlV)) (ps := Tx.parts (mvT (⟨some ⟨b13, 0, none⟩, 1, 1⟩ : SlV))) (Tx.enc_eq _) (by exact rfl) (by exact fitO ⟨by decide, Enc.size_eq (mvM (⟨some ⟨b13, 0, none⟩, 1, 1⟩ : SlV)), trivial⟩) ⟨rfl, rfl⟩)) ?_
   refine ML.look rfl rfl rfl (fun w hw => (by have hS := hS1.bel hw; exact opW.buildE (r := mvR (⟨some ⟨b13, 0, none⟩, 1, 1⟩ : SlV) (⟨some ⟨b22, 0, none⟩, 3, 3⟩ : SlV)) (ps := Ready.parts (mvR (⟨some ⟨b13, 0, none⟩, 1, 1⟩ : SlV) (⟨some ⟨b22, 0, none⟩, 3, 3⟩ : SlV))) (Ready.enc_eq _) (by exact rfl) (by exact fitO ⟨by decide, Enc.size_eq (mvT (⟨some ⟨b13, 0, none⟩, 1, 1⟩ : SlV)), by decide, rfl, by decide, Enc.size_eq (⟨400000, 0, -1⟩ : Budget), by decide, rfl, trivial⟩) ⟨rfl, rfl⟩)) ?_
   refine ML.put0 rfl rfl rfl (opW.storeE hS rfl rfl (by repeat constructor) (by first | rfl | exact Enc.size_eq _) ?_)
   intro w hS; replace hS := hS _ (by repeat constructor)
   refine ML.nil ?_
   refine thenQ_n (hK3 _ _ ?_)
   refine WC.ret ?_
   refine bodyQ_ret (.cell (hS.ldA (b := b6) (cs := Enc.enc (mvR (⟨some ⟨b13, 0, none⟩, 1, 1⟩ : SlV) (⟨some ⟨b22, 0, none⟩, 3, 3⟩ : SlV))) (by repeat constructor) (Enc.size_eq (mvR (⟨some ⟨b13, 0, none⟩, 1, 1⟩ : SlV) (⟨some ⟨b22, 0, none⟩, 3, 3⟩ : SlV)))) .nil) ?_
   exact ⟨(⟨some ⟨b8, 0, none⟩, 2, 2⟩ : SlV), (⟨some ⟨b10, 0, none⟩, 12, 12⟩ : SlV), (⟨some ⟨b13, 0, none⟩, 1, 1⟩ : SlV), (⟨some ⟨b22, 0, none⟩, 3, 3⟩ : SlV), rfl, ((((hS.pick (e := ownE (⟨some ⟨b22, 0, none⟩, 3, 3⟩ : SlV).v 91 (rsL p q)) (by repeat constructor)).pick (e := ownE (⟨some ⟨b13, 0, none⟩, 1, 1⟩ : SlV).v 61 ([(⟨2, (⟨some ⟨b8, 0, none⟩, 2, 2⟩ : SlV), (⟨some ⟨b10, 0, none⟩, 12, 12⟩ : SlV)⟩ : Instr)] : List Instr)) (by repeat constructor)).pick (e := ownE (⟨some ⟨b10, 0, none⟩, 12, 12⟩ : SlV).v 5 (dtL n)) (by repeat constructor)).pick (e := ownE (⟨some ⟨b8, 0, none⟩, 2, 2⟩ : SlV).v 5 ([0, 1] : List UInt8)) (by repeat constructor)).sub (by repeat with_reducible first | exact su1 _ | exact su2 _ | refine su3 ?_ | refine su4 ?_)⟩

end Go.Fer
