/- the chapter -/
import Derived.Test.YthfbfhokmknfnaaDoorM1
import Derived.Test.YthfbfhokmknfnaaDoorN4
set_option linter.all false
namespace Go.Fer
open Go Go.Proofs Go.RowKit

def kk8 : Key := (vz 32).set 0 8
def kk9 : Key := (vz 32).set 0 9
theorem kk_ne : kk9 ≠ kk8 ∧ sysK ≠ kk8 ∧ sysK ≠ kk9 := by decide +kernel
def dtL (n : UInt8) : List UInt8 := [2, 0, 0, 0, n, 0, 0, 0, 0, 0, 0, 0]
def rsL (p q : Key) : List Role := [⟨p, true, true⟩, ⟨q, false, true⟩, ⟨sysK, false, false⟩]
def mvM (vi : SlV) : Message := ⟨false, ⟨0, 0, 0⟩, ⟨none, 0, 0⟩, vz 32, vi, ⟨none, 0, 0⟩⟩
def mvT (vi : SlV) : Tx := ⟨⟨none, 0, 0⟩, mvM vi⟩
def mvR (vi vr : SlV) : Ready := ⟨⟨none, 0, 0⟩, mvT vi, vr, ⟨400000, 0, -1⟩, 5000, 0, 0⟩

def dt16 : List UInt8 := [2, 0, 0, 0, 184, 11, 0, 0, 0, 0, 0, 0]

set_option maxHeartbeats 1000000 in
theorem move16 (w0 : World) (p q : Key) : Ret Tryd.prog 21 #[.agg (Enc.enc p), .agg (Enc.enc q)] w0 (fun u w' => ∃ va vd vi vr : SlV, u = .agg (Enc.enc (mvR vi vr)) ∧ St w0 [ownE va.v 5 ([0, 1] : List UInt8), ownE vd.v 5 dt16, ownE vi.v 102 ([⟨2, va, vd⟩] : List Instr), ownE vr.v 96 (rsL p q)] w') := by
 refine Ret.enter (args := [.agg (Enc.enc p), .agg (Enc.enc q)]) Tryd.func21 rfl Tryd.ntmps21 Tryd.results21 rfl ?_
 have hS := St.start w0
 refine WC.seq (fun K1 hK1 => ?_)
 refine WC.region ?_
 refine WL.op rfl (opW.boxA hS rfl ?_)
 intro b2 w _ hS
 refine WL.op rfl (opW.boxA hS rfl ?_)
 intro b3 w _ hS
 refine WL.op rfl (opW.allocA hS ?_)
 intro b4 w _ hS
 refine WL.nil ?_
 refine thenQ_n (hK1 _ _ ?_)
 refine WC.seq (fun K2 hK2 => ?_)
 refine WC.region ?_
 refine WL.op rfl (opW.buildSl hS (([0, 1] : List UInt8)) [.int .u8 0, .int .u8 1] rfl rfl rfl rfl (by decide) ?_)
 intro b6 w hw hS
 refine WL.op rfl (opW.buildSl hS (dt16) [.int .u8 2, .int .u8 0, .int .u8 0, .int .u8 0, .int .u8 184, .int .u8 11, .int .u8 0, .int .u8 0, .int .u8 0, .int .u8 0, .int .u8 0, .int .u8 0] rfl rfl rfl rfl (by decide) ?_)
 intro b7 w hw hS
 refine WL.op rfl (opW.buildE (r := ((⟨2, (⟨some ⟨b6, 0, none⟩, 2, 2⟩ : SlV), (⟨some ⟨b7, 0, none⟩, 12, 12⟩ : SlV)⟩ : Instr) : Instr)) (ps := Instr.parts ((⟨2, (⟨some ⟨b6, 0, none⟩, 2, 2⟩ : SlV), (⟨some ⟨b7, 0, none⟩, 12, 12⟩ : SlV)⟩ : Instr) : Instr)) (Instr.enc_eq _) (by first | rfl | (simp only [sysK, az, budK, kk8, kk9, enc_vset, enc_vz, Account.enc_eq, Account.parts, Role.enc_eq, Role.parts, Instr.enc_eq, Instr.parts, Ask.enc_eq, Ask.parts, Cut.enc_eq, Cut.parts, PairS.enc_eq, PairS.parts, Header.enc_eq, Header.parts, Lookup.enc_eq, Lookup.parts, Message.enc_eq, Message.parts, Tx.enc_eq, Tx.parts, Budget.enc_eq, Budget.parts, Ready.enc_eq, Ready.parts, Holding.enc_eq, Holding.parts, Outcome.enc_eq, Outcome.parts, Running.enc_eq, Running.parts, StS.enc_eq, StS.parts, RSt.enc_eq, RSt.parts]; rfl)) (by (repeat' (first | exact trivial | refine And.intro ?_ ?_)) <;> first | rfl | exact Enc.size_eq _ | (simp; done)) ?_)
 refine WL.op rfl (opW.allocA hS ?_)
 intro b5 w _ hS
 refine WL.op0 (opW.storeE hS rfl rfl (by repeat constructor) (by first | rfl | exact Enc.size_eq _) ?_)
 intro w hS; replace hS := hS _ (by repeat constructor)
 refine WL.nil ?_
 refine thenQ_n (hK2 _ _ ?_)
 refine WC.seq (fun K3 hK3 => ?_)
 refine WC.draw 13 (.look 0 (.look 4 (.look 5 (.look 6 (.look 7 (.look 11 (.fork 1 8 (.look 2 (.look 3 (.one 8 (.look 9 (.one 10 (.look 12 (.one 13 .nil))))))) (.look 9 (.fork 1 10 (.look 2 (.look 3 (.one 10 (.look 12 (.one 13 .nil))))) (.one 1 (.look 2 (.look 3 (.look 12 (.one 13 .nil)))))))))))))) (by kernel_rfl) (fun _ _ _ h => h) (fun w1 hw1 => ?_)
 replace hS := hS.bel hw1
 have hS1 := hS
 have hT := St.start w1
 refine ML.look rfl rfl rfl (fun w hw => (by have hS := hS1.bel hw; exact opW.loadV rfl (hS.ldA (b := b5) (cs := Enc.enc (⟨2, (⟨some ⟨b6, 0, none⟩, 2, 2⟩ : SlV), (⟨some ⟨b7, 0, none⟩, 12, 12⟩ : SlV)⟩ : Instr)) (by repeat constructor) (Enc.size_eq (⟨2, (⟨some ⟨b6, 0, none⟩, 2, 2⟩ : SlV), (⟨some ⟨b7, 0, none⟩, 12, 12⟩ : SlV)⟩ : Instr))) ⟨rfl, rfl⟩)) ?_
 refine ML.look rfl rfl rfl (fun w hw => (by have hS := hS1.bel hw; exact opW.loadV rfl (hS.ldA (b := b2) (cs := Enc.enc p) (by repeat constructor) (Enc.size_eq p)) ⟨rfl, rfl⟩)) ?_
 refine ML.look rfl rfl rfl (fun w hw => (by have hS := hS1.bel hw; exact opW.buildE (r := (⟨p, true, true⟩ : Role)) (ps := Role.parts ⟨p, true, true⟩) (Role.enc_eq _) (by exact rfl) (by exact fitO ⟨by decide, Enc.size_eq p, by decide, rfl, by decide, rfl, trivial⟩) ⟨rfl, rfl⟩)) ?_
 refine ML.look rfl rfl rfl (fun w hw => (by have hS := hS1.bel hw; exact opW.loadV rfl (hS.ldA (b := b3) (cs := Enc.enc q) (by repeat constructor) (Enc.size_eq q)) ⟨rfl, rfl⟩)) ?_
 refine ML.look rfl rfl rfl (fun w hw => (by have hS := hS1.bel hw; exact opW.buildE (r := (⟨q, false, true⟩ : Role)) (ps := Role.parts ⟨q, false, true⟩) (Role.enc_eq _) (by exact rfl) (by exact fitO ⟨by decide, Enc.size_eq q, by decide, rfl, trivial⟩) ⟨rfl, rfl⟩)) ?_
 refine ML.look rfl rfl rfl (fun w hw => (by have hS := hS1.bel hw; exact opW.buildE (r := ((⟨400000, 0, -1⟩ : Budget) : Budget)) (ps := Budget.parts ((⟨400000, 0, -1⟩ : Budget) : Budget)) (Budget.enc_eq _) (by first | rfl | (simp only [sysK, az, budK, kk8, kk9, enc_vset, enc_vz, Account.enc_eq, Account.parts, Role.enc_eq, Role.parts, Instr.enc_eq, Instr.parts, Ask.enc_eq, Ask.parts, Cut.enc_eq, Cut.parts, PairS.enc_eq, PairS.parts, Header.enc_eq, Header.parts, Lookup.enc_eq, Lookup.parts, Message.enc_eq, Message.parts, Tx.enc_eq, Tx.parts, Budget.enc_eq, Budget.parts, Ready.enc_eq, Ready.parts, Holding.enc_eq, Holding.parts, Outcome.enc_eq, Outcome.parts, Running.enc_eq, Running.parts, StS.enc_eq, StS.parts, RSt.enc_eq, RSt.parts]; rfl)) (by (repeat' (first | exact trivial | refine And.intro ?_ ?_)) <;> first | rfl | exact Enc.size_eq _ | (simp; done)) ⟨rfl, rfl⟩)) ?_
 refine ML.fork rfl rfl rfl rfl ?_ ?_ 
 ·refine opW.buildSl hT (([(⟨2, (⟨some ⟨b6, 0, none⟩, 2, 2⟩ : SlV), (⟨some ⟨b7, 0, none⟩, 12, 12⟩ : SlV)⟩ : Instr)] : List Instr)) [.agg (Enc.enc (⟨2, (⟨some ⟨b6, 0, none⟩, 2, 2⟩ : SlV), (⟨some ⟨b7, 0, none⟩, 12, 12⟩ : SlV)⟩ : Instr))] rfl rfl rfl rfl (by decide) ?_
  intro b10 w hw hT
  refine ⟨hT.old, ?_⟩
  have hS := hS1.merge hT
  try simp only [List.cons_append, List.nil_append] at hS
  refine ML.look rfl rfl rfl (fun w hw => (by have hS := hS1.bel hw; exact opW.buildE (r := mvM (⟨some ⟨b10, 0, none⟩, 1, 1⟩ : SlV)) (ps := Message.parts (mvM (⟨some ⟨b10, 0, none⟩, 1, 1⟩ : SlV))) (Message.enc_eq _) (by simp only [mvM, Message.parts, enc_vz, Header.enc_eq, Header.parts]; rfl) (by (repeat' (first | exact trivial | refine And.intro ?_ ?_)) <;> first | rfl | exact Enc.size_eq _ | (simp; done)) ⟨rfl, rfl⟩)) ?_
  refine ML.look rfl rfl rfl (fun w hw => (by have hS := hS1.bel hw; exact opW.buildE (r := mvT (⟨some ⟨b10, 0, none⟩, 1, 1⟩ : SlV)) (ps := Tx.parts (mvT (⟨some ⟨b10, 0, none⟩, 1, 1⟩ : SlV))) (Tx.enc_eq _) (by exact rfl) (by exact fitO ⟨by decide, Enc.size_eq (mvM (⟨some ⟨b10, 0, none⟩, 1, 1⟩ : SlV)), trivial⟩) ⟨rfl, rfl⟩)) ?_
  refine ML.one rfl rfl rfl (opW.call (sys_ok _) rfl ?_)
  rintro _ w ⟨rfl, hw⟩; replace hT := hT.bel hw
  refine ⟨hT.old, ?_⟩
  have hS := hS1.merge hT
  try simp only [List.cons_append, List.nil_append] at hS
  refine ML.look rfl rfl rfl (fun w hw => (by have hS := hS1.bel hw; exact opW.buildE (r := (⟨sysK, false, false⟩ : Role)) (ps := Role.parts ⟨sysK, false, false⟩) (Role.enc_eq _) (by exact rfl) (by exact fitO ⟨by decide, Enc.size_eq sysK, trivial⟩) ⟨rfl, rfl⟩)) ?_
  refine ML.one rfl rfl rfl (opW.buildSl hT ((rsL p q : List Role)) [.agg (Enc.enc (⟨p, true, true⟩ : Role)), .agg (Enc.enc (⟨q, false, true⟩ : Role)), .agg (Enc.enc (⟨sysK, false, false⟩ : Role))] rfl rfl rfl rfl (by decide) ?_)
  intro b19 w hw hT
  refine ⟨hT.old, ?_⟩
  have hS := hS1.merge hT
  try simp only [List.cons_append, List.nil_append] at hS
  refine ML.look rfl rfl rfl (fun w hw => (by have hS := hS1.bel hw; exact opW.buildE (r := mvR (⟨some ⟨b10, 0, none⟩, 1, 1⟩ : SlV) (⟨some ⟨b19, 0, none⟩, 3, 3⟩ : SlV)) (ps := Ready.parts (mvR (⟨some ⟨b10, 0, none⟩, 1, 1⟩ : SlV) (⟨some ⟨b19, 0, none⟩, 3, 3⟩ : SlV))) (Ready.enc_eq _) (by exact rfl) (by exact fitO ⟨by decide, Enc.size_eq (mvT (⟨some ⟨b10, 0, none⟩, 1, 1⟩ : SlV)), by decide, rfl, by decide, Enc.size_eq (⟨400000, 0, -1⟩ : Budget), by decide, rfl, trivial⟩) ⟨rfl, rfl⟩)) ?_
  refine ML.put0 rfl rfl rfl (opW.storeE hS rfl rfl (by repeat constructor) (by first | rfl | exact Enc.size_eq _) ?_)
  intro w hS; replace hS := hS _ (by repeat constructor)
  refine ML.nil ?_
  refine thenQ_n (hK3 _ _ ?_)
  refine WC.ret ?_
  refine bodyQ_ret (.cell (hS.ldA (b := b4) (cs := Enc.enc (mvR (⟨some ⟨b10, 0, none⟩, 1, 1⟩ : SlV) (⟨some ⟨b19, 0, none⟩, 3, 3⟩ : SlV))) (by repeat constructor) (Enc.size_eq (mvR (⟨some ⟨b10, 0, none⟩, 1, 1⟩ : SlV) (⟨some ⟨b19, 0, none⟩, 3, 3⟩ : SlV)))) .nil) ?_
  exact ⟨(⟨some ⟨b6, 0, none⟩, 2, 2⟩ : SlV), (⟨some ⟨b7, 0, none⟩, 12, 12⟩ : SlV), (⟨some ⟨b10, 0, none⟩, 1, 1⟩ : SlV), (⟨some ⟨b19, 0, none⟩, 3, 3⟩ : SlV), rfl, ((((hS.pick (e := ownE (⟨some ⟨b19, 0, none⟩, 3, 3⟩ : SlV).v 96 (rsL p q)) (by repeat constructor)).pick (e := ownE (⟨some ⟨b10, 0, none⟩, 1, 1⟩ : SlV).v 102 ([(⟨2, (⟨some ⟨b6, 0, none⟩, 2, 2⟩ : SlV), (⟨some ⟨b7, 0, none⟩, 12, 12⟩ : SlV)⟩ : Instr)] : List Instr)) (by repeat constructor)).pick (e := ownE (⟨some ⟨b7, 0, none⟩, 12, 12⟩ : SlV).v 5 dt16) (by repeat constructor)).pick (e := ownE (⟨some ⟨b6, 0, none⟩, 2, 2⟩ : SlV).v 5 ([0, 1] : List UInt8)) (by repeat constructor)).sub (by repeat with_reducible first | exact su1 _ | exact su2 _ | refine su3 ?_ | refine su4 ?_)⟩
 ·refine opW.call (sys_ok _) rfl ?_
  rintro _ w ⟨rfl, hw⟩; replace hT := hT.bel hw
  refine ⟨hT.old, ?_⟩
  have hS := hS1.merge hT
  try simp only [List.cons_append, List.nil_append] at hS
  refine ML.look rfl rfl rfl (fun w hw => (by have hS := hS1.bel hw; exact opW.buildE (r := (⟨sysK, false, false⟩ : Role)) (ps := Role.parts ⟨sysK, false, false⟩) (Role.enc_eq _) (by exact rfl) (by exact fitO ⟨by decide, Enc.size_eq sysK, trivial⟩) ⟨rfl, rfl⟩)) ?_
  refine ML.fork rfl rfl rfl rfl ?_ ?_ 
  ·refine opW.buildSl hT (([(⟨2, (⟨some ⟨b6, 0, none⟩, 2, 2⟩ : SlV), (⟨some ⟨b7, 0, none⟩, 12, 12⟩ : SlV)⟩ : Instr)] : List Instr)) [.agg (Enc.enc (⟨2, (⟨some ⟨b6, 0, none⟩, 2, 2⟩ : SlV), (⟨some ⟨b7, 0, none⟩, 12, 12⟩ : SlV)⟩ : Instr))] rfl rfl rfl rfl (by decide) ?_
   intro b10 w hw hT
   refine ⟨hT.old, ?_⟩
   have hS := hS1.merge hT
   try simp only [List.cons_append, List.nil_append] at hS
   refine ML.look rfl rfl rfl (fun w hw => (by have hS := hS1.bel hw; exact opW.buildE (r := mvM (⟨some ⟨b10, 0, none⟩, 1, 1⟩ : SlV)) (ps := Message.parts (mvM (⟨some ⟨b10, 0, none⟩, 1, 1⟩ : SlV))) (Message.enc_eq _) (by simp only [mvM, Message.parts, enc_vz, Header.enc_eq, Header.parts]; rfl) (by (repeat' (first | exact trivial | refine And.intro ?_ ?_)) <;> first | rfl | exact Enc.size_eq _ | (simp; done)) ⟨rfl, rfl⟩)) ?_
   refine ML.look rfl rfl rfl (fun w hw => (by have hS := hS1.bel hw; exact opW.buildE (r := mvT (⟨some ⟨b10, 0, none⟩, 1, 1⟩ : SlV)) (ps := Tx.parts (mvT (⟨some ⟨b10, 0, none⟩, 1, 1⟩ : SlV))) (Tx.enc_eq _) (by exact rfl) (by exact fitO ⟨by decide, Enc.size_eq (mvM (⟨some ⟨b10, 0, none⟩, 1, 1⟩ : SlV)), trivial⟩) ⟨rfl, rfl⟩)) ?_
   refine ML.one rfl rfl rfl (opW.buildSl hT ((rsL p q : List Role)) [.agg (Enc.enc (⟨p, true, true⟩ : Role)), .agg (Enc.enc (⟨q, false, true⟩ : Role)), .agg (Enc.enc (⟨sysK, false, false⟩ : Role))] rfl rfl rfl rfl (by decide) ?_)
   intro b19 w hw hT
   refine ⟨hT.old, ?_⟩
   have hS := hS1.merge hT
   try simp only [List.cons_append, List.nil_append] at hS
   refine ML.look rfl rfl rfl (fun w hw => (by have hS := hS1.bel hw; exact opW.buildE (r := mvR (⟨some ⟨b10, 0, none⟩, 1, 1⟩ : SlV) (⟨some ⟨b19, 0, none⟩, 3, 3⟩ : SlV)) (ps := Ready.parts (mvR (⟨some ⟨b10, 0, none⟩, 1, 1⟩ : SlV) (⟨some ⟨b19, 0, none⟩, 3, 3⟩ : SlV))) (Ready.enc_eq _) (by exact rfl) (by exact fitO ⟨by decide, Enc.size_eq (mvT (⟨some ⟨b10, 0, none⟩, 1, 1⟩ : SlV)), by decide, rfl, by decide, Enc.size_eq (⟨400000, 0, -1⟩ : Budget), by decide, rfl, trivial⟩) ⟨rfl, rfl⟩)) ?_
   refine ML.put0 rfl rfl rfl (opW.storeE hS rfl rfl (by repeat constructor) (by first | rfl | exact Enc.size_eq _) ?_)
   intro w hS; replace hS := hS _ (by repeat constructor)
   refine ML.nil ?_
   refine thenQ_n (hK3 _ _ ?_)
   refine WC.ret ?_
   refine bodyQ_ret (.cell (hS.ldA (b := b4) (cs := Enc.enc (mvR (⟨some ⟨b10, 0, none⟩, 1, 1⟩ : SlV) (⟨some ⟨b19, 0, none⟩, 3, 3⟩ : SlV))) (by repeat constructor) (Enc.size_eq (mvR (⟨some ⟨b10, 0, none⟩, 1, 1⟩ : SlV) (⟨some ⟨b19, 0, none⟩, 3, 3⟩ : SlV)))) .nil) ?_
   exact ⟨(⟨some ⟨b6, 0, none⟩, 2, 2⟩ : SlV), (⟨some ⟨b7, 0, none⟩, 12, 12⟩ : SlV), (⟨some ⟨b10, 0, none⟩, 1, 1⟩ : SlV), (⟨some ⟨b19, 0, none⟩, 3, 3⟩ : SlV), rfl, ((((hS.pick (e := ownE (⟨some ⟨b19, 0, none⟩, 3, 3⟩ : SlV).v 96 (rsL p q)) (by repeat constructor)).pick (e := ownE (⟨some ⟨b10, 0, none⟩, 1, 1⟩ : SlV).v 102 ([(⟨2, (⟨some ⟨b6, 0, none⟩, 2, 2⟩ : SlV), (⟨some ⟨b7, 0, none⟩, 12, 12⟩ : SlV)⟩ : Instr)] : List Instr)) (by repeat constructor)).pick (e := ownE (⟨some ⟨b7, 0, none⟩, 12, 12⟩ : SlV).v 5 dt16) (by repeat constructor)).pick (e := ownE (⟨some ⟨b6, 0, none⟩, 2, 2⟩ : SlV).v 5 ([0, 1] : List UInt8)) (by repeat constructor)).sub (by repeat with_reducible first | exact su1 _ | exact su2 _ | refine su3 ?_ | refine su4 ?_)⟩
  ·refine opW.buildSl hT ((rsL p q : List Role)) [.agg (Enc.enc (⟨p, true, true⟩ : Role)), .agg (Enc.enc (⟨q, false, true⟩ : Role)), .agg (Enc.enc (⟨sysK, false, false⟩ : Role))] rfl rfl rfl rfl (by decide) ?_
   intro b19 w hw hT
   refine ⟨hT.old, ?_⟩
   have hS := hS1.merge hT
   try simp only [List.cons_append, List.nil_append] at hS
   refine ML.one rfl rfl rfl (opW.buildSl hT (([(⟨2, (⟨some ⟨b6, 0, none⟩, 2, 2⟩ : SlV), (⟨some ⟨b7, 0, none⟩, 12, 12⟩ : SlV)⟩ : Instr)] : List Instr)) [.agg (Enc.enc (⟨2, (⟨some ⟨b6, 0, none⟩, 2, 2⟩ : SlV), (⟨some ⟨b7, 0, none⟩, 12, 12⟩ : SlV)⟩ : Instr))] rfl rfl rfl rfl (by decide) ?_)
   intro b10 w hw hT
   refine ⟨hT.old, ?_⟩
   have hS := hS1.merge hT
   try simp only [List.cons_append, List.nil_append] at hS
   refine ML.look rfl rfl rfl (fun w hw => (by have hS := hS1.bel hw; exact opW.buildE (r := mvM (⟨some ⟨b10, 0, none⟩, 1, 1⟩ : SlV)) (ps := Message.parts (mvM (⟨some ⟨b10, 0, none⟩, 1, 1⟩ : SlV))) (Message.enc_eq _) (by simp only [mvM, Message.parts, enc_vz, Header.enc_eq, Header.parts]; rfl) (by (repeat' (first | exact trivial | refine And.intro ?_ ?_)) <;> first | rfl | exact Enc.size_eq _ | (simp; done)) ⟨rfl, rfl⟩)) ?_
   refine ML.look rfl rfl rfl (fun w hw => (by have hS := hS1.bel hw; exact opW.buildE (r := mvT (⟨some ⟨b10, 0, none⟩, 1, 1⟩ : SlV)) (ps := Tx.parts (mvT (⟨some ⟨b10, 0, none⟩, 1, 1⟩ : SlV))) (Tx.enc_eq _) (by exact rfl) (by exact fitO ⟨by decide, Enc.size_eq (mvM (⟨some ⟨b10, 0, none⟩, 1, 1⟩ : SlV)), trivial⟩) ⟨rfl, rfl⟩)) ?_
   refine ML.look rfl rfl rfl (fun w hw => (by have hS := hS1.bel hw; exact opW.buildE (r := mvR (⟨some ⟨b10, 0, none⟩, 1, 1⟩ : SlV) (⟨some ⟨b19, 0, none⟩, 3, 3⟩ : SlV)) (ps := Ready.parts (mvR (⟨some ⟨b10, 0, none⟩, 1, 1⟩ : SlV) (⟨some ⟨b19, 0, none⟩, 3, 3⟩ : SlV))) (Ready.enc_eq _) (by exact rfl) (by exact fitO ⟨by decide, Enc.size_eq (mvT (⟨some ⟨b10, 0, none⟩, 1, 1⟩ : SlV)), by decide, rfl, by decide, Enc.size_eq (⟨400000, 0, -1⟩ : Budget), by decide, rfl, trivial⟩) ⟨rfl, rfl⟩)) ?_
   refine ML.put0 rfl rfl rfl (opW.storeE hS rfl rfl (by repeat constructor) (by first | rfl | exact Enc.size_eq _) ?_)
   intro w hS; replace hS := hS _ (by repeat constructor)
   refine ML.nil ?_
   refine thenQ_n (hK3 _ _ ?_)
   refine WC.ret ?_
   refine bodyQ_ret (.cell (hS.ldA (b := b4) (cs := Enc.enc (mvR (⟨some ⟨b10, 0, none⟩, 1, 1⟩ : SlV) (⟨some ⟨b19, 0, none⟩, 3, 3⟩ : SlV))) (by repeat constructor) (Enc.size_eq (mvR (⟨some ⟨b10, 0, none⟩, 1, 1⟩ : SlV) (⟨some ⟨b19, 0, none⟩, 3, 3⟩ : SlV)))) .nil) ?_
   exact ⟨(⟨some ⟨b6, 0, none⟩, 2, 2⟩ : SlV), (⟨some ⟨b7, 0, none⟩, 12, 12⟩ : SlV), (⟨some ⟨b10, 0, none⟩, 1, 1⟩ : SlV), (⟨some ⟨b19, 0, none⟩, 3, 3⟩ : SlV), rfl, ((((hS.pick (e := ownE (⟨some ⟨b19, 0, none⟩, 3, 3⟩ : SlV).v 96 (rsL p q)) (by repeat constructor)).pick (e := ownE (⟨some ⟨b10, 0, none⟩, 1, 1⟩ : SlV).v 102 ([(⟨2, (⟨some ⟨b6, 0, none⟩, 2, 2⟩ : SlV), (⟨some ⟨b7, 0, none⟩, 12, 12⟩ : SlV)⟩ : Instr)] : List Instr)) (by repeat constructor)).pick (e := ownE (⟨some ⟨b7, 0, none⟩, 12, 12⟩ : SlV).v 5 dt16) (by repeat constructor)).pick (e := ownE (⟨some ⟨b6, 0, none⟩, 2, 2⟩ : SlV).v 5 ([0, 1] : List UInt8)) (by repeat constructor)).sub (by repeat with_reducible first | exact su1 _ | exact su2 _ | refine su3 ?_ | refine su4 ?_)⟩

def qM : PI := ⟨2, [0, 1], dt16⟩
def aC (n : Nat) : Account := ⟨n, vz 32, 0⟩
/-- the store of the chapter's answers -/
def LivS (d : StD) (a b : Nat) : Prop := ∀ k, d.get k = if k = kk8 then aC a else if k = kk9 then aC b else az
def txM (vi vr va vd : SlV) : TX := ⟨mvR vi vr, rsL kk8 kk9, [⟨2, va, vd⟩], [qM]⟩
theorem aC0 : aC 0 = az := rfl
theorem askM : askF dt16 = some ⟨2, 3000, 0, vz 32⟩ := by
 have h2 : askF dt16 = some ⟨2, leN ((dt16.drop 4).take 8), 0, vz 32⟩ := askF2 (by decide) (by decide +kernel) (by decide)
 rw [h2]
 have h : leN ((dt16.drop 4).take 8) = 3000 := by decide +kernel
 rw [h]
theorem livL {d : StD} {a b : Nat} (h : LivS d a b) : loadA d (rsL kk8 kk9) = [aC a, aC b, az] := by
 unfold loadA rsL
 simp only [List.map_cons, List.map_nil]
 rw [h, h, h]
 rw [if_pos rfl, if_neg kk_ne.1, if_pos rfl, if_neg kk_ne.2.1, if_neg kk_ne.2.2]

theorem doM20000_0 : doF [aC 15000, aC 0, az] (rsL kk8 kk9) [0, 1] dt16 = (0, 0, [aC 12000, aC 3000, az]) := by
 have h : takF 2 (rsL kk8 kk9) [0, 1] = 0 := by simp [takF, need, lacks, rsL, roleErrs, roleErr]
 rw [doF_act (j := 1) rfl askM h (by decide) (by decide) rfl (by decide) (by decide)]
 rw [if_neg (by decide +kernel)]
 decide +kernel
theorem runM20000_0 : runL (rsL kk8 kk9) 400000 (-1) [qM] 0 ⟨0, 0, [aC 15000, aC 0, az]⟩ = (0, 1, ⟨150, 0, [aC 12000, aC 3000, az]⟩) := by
 have h1 : stepF (rsL kk8 kk9) 400000 (-1) 0 qM ⟨0, 0, [aC 15000, aC 0, az]⟩ = (0, ⟨150, 0, [aC 12000, aC 3000, az]⟩) := by
  rw [stepF_act (by decide) (by decide), actF_s (by rfl)]
  show (if (doF [aC 15000, aC 0, az] (rsL kk8 kk9) [0, 1] dt16).1 ≠ 0 then _ else _) = _
  rw [doM20000_0]
  rfl
 unfold runL
 rw [h1]
 rfl
theorem payM20000_0 : payB 5000 (rsL kk8 kk9) [aC 20000, aC 0, az] = true ∧ paidA 5000 [aC 20000, aC 0, az] = [aC 15000, aC 0, az] := ⟨by decide +kernel, by decide +kernel⟩
theorem nextM20000_0 (vi vr va vd : SlV) {d : StD} (hok : StOk d) (h : LivS d 20000 0) : errF d (txM vi vr va vd) = 0 ∧ LivS (nextF d (txM vi vr va vd)) 12000 3000 := by
 have hl := livL h
 have hle : (txM vi vr va vd).l d = [aC 15000, aC 0, az] := by
  show paidA 5000 (loadA d (rsL kk8 kk9)) = _
  rw [hl]; exact payM20000_0.2
 have he : errF d (txM vi vr va vd) = 0 := by
  unfold errF
  rw [if_neg (by show ¬ payB 5000 (rsL kk8 kk9) (loadA d (rsL kk8 kk9)) = false; rw [hl, payM20000_0.1]; decide), hle]
  exact if_neg (by rw [show badArg (txM vi vr va vd).r [aC 15000, aC 0, az] (txM vi vr va vd).ins = false from rfl]; decide)
 refine ⟨he, ?_⟩
 have hz : runZ (mvR vi vr) (rsL kk8 kk9) [qM] [aC 15000, aC 0, az] = (0, 1, ⟨150, 0, [aC 12000, aC 3000, az]⟩) := runM20000_0
 have hch : chF d (txM vi vr va vd) = [⟨kk8, aC 12000⟩, ⟨kk9, aC 3000⟩] := by
  unfold chF
  rw [hle]
  show chgF (rsL kk8 kk9) (accF (mvR vi vr) (rsL kk8 kk9) [qM] [aC 15000, aC 0, az]) = _
  unfold accF
  rw [hz]
  rfl
 unfold nextF
 rw [if_pos he, hch]
 intro k
 show ((d.put kk8 (aC 12000)).put kk9 (aC 3000)).get k = _
 rw [StD.get_put (hok.put _ _), StD.get_put hok, h]
 by_cases h8 : k = kk8
 ·subst h8; rw [if_neg (fun e => kk_ne.1 e.symm), if_pos rfl, if_pos rfl]
 ·rw [if_neg h8, if_neg h8, if_neg h8]
  by_cases h9 : k = kk9
  ·rw [if_pos h9, if_pos h9]
  ·rw [if_neg h9, if_neg h9]; first | done | exact (if_neg h9).symm

theorem doM20000_3000 : doF [aC 15000, aC 3000, az] (rsL kk8 kk9) [0, 1] dt16 = (0, 0, [aC 12000, aC 6000, az]) := by
 have h : takF 2 (rsL kk8 kk9) [0, 1] = 0 := by simp [takF, need, lacks, rsL, roleErrs, roleErr]
 rw [doF_act (j := 1) rfl askM h (by decide) (by decide) rfl (by decide) (by decide)]
 rw [if_neg (by decide +kernel)]
 decide +kernel
theorem runM20000_3000 : runL (rsL kk8 kk9) 400000 (-1) [qM] 0 ⟨0, 0, [aC 15000, aC 3000, az]⟩ = (0, 1, ⟨150, 0, [aC 12000, aC 6000, az]⟩) := by
 have h1 : stepF (rsL kk8 kk9) 400000 (-1) 0 qM ⟨0, 0, [aC 15000, aC 3000, az]⟩ = (0, ⟨150, 0, [aC 12000, aC 6000, az]⟩) := by
  rw [stepF_act (by decide) (by decide), actF_s (by rfl)]
  show (if (doF [aC 15000, aC 3000, az] (rsL kk8 kk9) [0, 1] dt16).1 ≠ 0 then _ else _) = _
  rw [doM20000_3000]
  rfl
 unfold runL
 rw [h1]
 rfl
theorem payM20000_3000 : payB 5000 (rsL kk8 kk9) [aC 20000, aC 3000, az] = true ∧ paidA 5000 [aC 20000, aC 3000, az] = [aC 15000, aC 3000, az] := ⟨by decide +kernel, by decide +kernel⟩
theorem nextM20000_3000 (vi vr va vd : SlV) {d : StD} (hok : StOk d) (h : LivS d 20000 3000) : errF d (txM vi vr va vd) = 0 ∧ LivS (nextF d (txM vi vr va vd)) 12000 6000 := by
 have hl := livL h
 have hle : (txM vi vr va vd).l d = [aC 15000, aC 3000, az] := by
  show paidA 5000 (loadA d (rsL kk8 kk9)) = _
  rw [hl]; exact payM20000_3000.2
 have he : errF d (txM vi vr va vd) = 0 := by
  unfold errF
  rw [if_neg (by show ¬ payB 5000 (rsL kk8 kk9) (loadA d (rsL kk8 kk9)) = false; rw [hl, payM20000_3000.1]; decide), hle]
  exact if_neg (by rw [show badArg (txM vi vr va vd).r [aC 15000, aC 3000, az] (txM vi vr va vd).ins = false from rfl]; decide)
 refine ⟨he, ?_⟩
 have hz : runZ (mvR vi vr) (rsL kk8 kk9) [qM] [aC 15000, aC 3000, az] = (0, 1, ⟨150, 0, [aC 12000, aC 6000, az]⟩) := runM20000_3000
 have hch : chF d (txM vi vr va vd) = [⟨kk8, aC 12000⟩, ⟨kk9, aC 6000⟩] := by
  unfold chF
  rw [hle]
  show chgF (rsL kk8 kk9) (accF (mvR vi vr) (rsL kk8 kk9) [qM] [aC 15000, aC 3000, az]) = _
  unfold accF
  rw [hz]
  rfl
 unfold nextF
 rw [if_pos he, hch]
 intro k
 show ((d.put kk8 (aC 12000)).put kk9 (aC 6000)).get k = _
 rw [StD.get_put (hok.put _ _), StD.get_put hok, h]
 by_cases h8 : k = kk8
 ·subst h8; rw [if_neg (fun e => kk_ne.1 e.symm), if_pos rfl, if_pos rfl]
 ·rw [if_neg h8, if_neg h8, if_neg h8]
  by_cases h9 : k = kk9
  ·rw [if_pos h9, if_pos h9]
  ·rw [if_neg h9, if_neg h9]; first | done | exact (if_neg h9).symm

theorem doM12000_6000 : doF [aC 7000, aC 6000, az] (rsL kk8 kk9) [0, 1] dt16 = (0, 0, [aC 4000, aC 9000, az]) := by
 have h : takF 2 (rsL kk8 kk9) [0, 1] = 0 := by simp [takF, need, lacks, rsL, roleErrs, roleErr]
 rw [doF_act (j := 1) rfl askM h (by decide) (by decide) rfl (by decide) (by decide)]
 rw [if_neg (by decide +kernel)]
 decide +kernel
theorem runM12000_6000 : runL (rsL kk8 kk9) 400000 (-1) [qM] 0 ⟨0, 0, [aC 7000, aC 6000, az]⟩ = (0, 1, ⟨150, 0, [aC 4000, aC 9000, az]⟩) := by
 have h1 : stepF (rsL kk8 kk9) 400000 (-1) 0 qM ⟨0, 0, [aC 7000, aC 6000, az]⟩ = (0, ⟨150, 0, [aC 4000, aC 9000, az]⟩) := by
  rw [stepF_act (by decide) (by decide), actF_s (by rfl)]
  show (if (doF [aC 7000, aC 6000, az] (rsL kk8 kk9) [0, 1] dt16).1 ≠ 0 then _ else _) = _
  rw [doM12000_6000]
  rfl
 unfold runL
 rw [h1]
 rfl
theorem payM12000_6000 : payB 5000 (rsL kk8 kk9) [aC 12000, aC 6000, az] = true ∧ paidA 5000 [aC 12000, aC 6000, az] = [aC 7000, aC 6000, az] := ⟨by decide +kernel, by decide +kernel⟩
theorem nextM12000_6000 (vi vr va vd : SlV) {d : StD} (hok : StOk d) (h : LivS d 12000 6000) : errF d (txM vi vr va vd) = 0 ∧ LivS (nextF d (txM vi vr va vd)) 4000 9000 := by
 have hl := livL h
 have hle : (txM vi vr va vd).l d = [aC 7000, aC 6000, az] := by
  show paidA 5000 (loadA d (rsL kk8 kk9)) = _
  rw [hl]; exact payM12000_6000.2
 have he : errF d (txM vi vr va vd) = 0 := by
  unfold errF
  rw [if_neg (by show ¬ payB 5000 (rsL kk8 kk9) (loadA d (rsL kk8 kk9)) = false; rw [hl, payM12000_6000.1]; decide), hle]
  exact if_neg (by rw [show badArg (txM vi vr va vd).r [aC 7000, aC 6000, az] (txM vi vr va vd).ins = false from rfl]; decide)
 refine ⟨he, ?_⟩
 have hz : runZ (mvR vi vr) (rsL kk8 kk9) [qM] [aC 7000, aC 6000, az] = (0, 1, ⟨150, 0, [aC 4000, aC 9000, az]⟩) := runM12000_6000
 have hch : chF d (txM vi vr va vd) = [⟨kk8, aC 4000⟩, ⟨kk9, aC 9000⟩] := by
  unfold chF
  rw [hle]
  show chgF (rsL kk8 kk9) (accF (mvR vi vr) (rsL kk8 kk9) [qM] [aC 7000, aC 6000, az]) = _
  unfold accF
  rw [hz]
  rfl
 unfold nextF
 rw [if_pos he, hch]
 intro k
 show ((d.put kk8 (aC 4000)).put kk9 (aC 9000)).get k = _
 rw [StD.get_put (hok.put _ _), StD.get_put hok, h]
 by_cases h8 : k = kk8
 ·subst h8; rw [if_neg (fun e => kk_ne.1 e.symm), if_pos rfl, if_pos rfl]
 ·rw [if_neg h8, if_neg h8, if_neg h8]
  by_cases h9 : k = kk9
  ·rw [if_pos h9, if_pos h9]
  ·rw [if_neg h9, if_neg h9]; first | done | exact (if_neg h9).symm

theorem stopM (vi vr va vd : SlV) {d : StD} (h : LivS d 4000 9000) : errF d (txM vi vr va vd) = 22 := by
 have hl := livL h
 unfold errF
 exact if_pos (by show payB 5000 (rsL kk8 kk9) (loadA d (rsL kk8 kk9)) = false; rw [hl]; decide +kernel)

theorem run_isAgg16 {P : Program} {T : TypeId} {b : Bool} (h : aggB P T = some b) (w : World) : (isAgg T).run P w = .ok b w := by
 unfold aggB at h
 cases hu : P.underlying T with
 | none => rw [hu] at h; cases h
 | some u =>
  rw [hu] at h
  simp only [Option.map_some, Option.some.injEq] at h
  simp only [isAgg, Sem.run_bind, run_underlying hu, Result.andThen_ok]
  cases u <;> simp_all
/-- the field of a struct that is held whole -/
theorem opW.fieldS {P : Program} {f : Fr} {w : World} {R : Value → World → Prop} {d : Option Tmp} {T : TypeId} {pos : String} {af : Array Edge} {gd : Option (Nat × Bool)} {s i off : Nat} {x : Operand} {cs : Array Value} {v : Value} (hx : ev f x = .agg cs)
  (hft : (match P.underlying s with | some (.struct fs) => (fs[i]?).map (fun g => (g.offset, aggB P g.type)) | _ => none) = some (off, some false)) (hv : cs[off]? = some v) (h : R v w) : opW P f ⟨d, .field s x i, T, pos, af, gd⟩ w R := by
 refine opW.of_run (v := v) (w' := w) ?_ h
 split at hft
 ·next fs hu =>
  cases hg : fs[i]? with
  | none => rw [hg] at hft; cases hft
  | some g =>
   rw [hg] at hft
   simp only [Option.map_some, Option.some.injEq, Prod.mk.injEq] at hft
   obtain ⟨rfl, ha⟩ := hft
   simp [execOp, hx, Instr.field, run_underlying hu, hg, part, asAgg, run_isAgg16 ha, hv]
 ·cases hft

theorem txM_ok {w : World} {vi vr va vd : SlV} (h1 : SlR w vr.v (rsL kk8 kk9)) (h2 : SlR w vi.v ([⟨2, va, vd⟩] : List Instr)) (h3 : SlR w va.v ([0, 1] : List UInt8)) (h4 : SlR w vd.v dt16) : TXOk w (txM vi vr va vd) :=
 ⟨h1, h2, rfl, fun k h h2 => by obtain rfl : k = 0 := (by have h : k < 1 := h; omega); exact ⟨rfl, h3, h4⟩, (by decide : (400000 : Nat) < 18446744073709551616), (by decide : 3 ≤ 100000), (by decide : (5000 : Nat) < 18446744073709551616)⟩
theorem livs_ok {d : StD} {a b : Nat} (h : LivS d a b) (ha : a < 18446744073709551616) (hb : b < 18446744073709551616) : okS d := by
 intro k
 rw [h k]
 split
 ·exact ⟨ha, (by decide : (0 : Nat) < 18446744073709551616)⟩
 ·split
  ·exact ⟨hb, (by decide : (0 : Nat) < 18446744073709551616)⟩
  ·exact ⟨(by decide : (0 : Nat) < 18446744073709551616), (by decide : (0 : Nat) < 18446744073709551616)⟩
theorem OcIs.fee5 {d : StD} {vi vr va vd : SlV} {o : Outcome} {ch : List Holding} (h : OcIs d (txM vi vr va vd) o ch) (he : errF d (txM vi vr va vd) = 0) : o.fee = 5000 := by
 rcases h with ⟨_, _, s, rfl⟩ | ⟨h, _⟩
 ·rfl
 ·exact absurd he h
theorem livPut {d : StD} {a b : Nat} (hok : StOk d) (h : LivS d a b) (c : Nat) : LivS (d.put kk8 (aC c)) c b := by
 intro k
 rw [StD.get_put hok, h k]
 by_cases hk : k = kk8
 ·rw [if_pos hk, if_pos hk]
 ·rw [if_neg hk, if_neg hk, if_neg hk]
/-- three times the same move: the third one finds too little -/
theorem livFold {vi vr va vd : SlV} {d : StD} {k : Nat} {ps : List (Outcome × List Holding)} {e : Int} (hok : StOk d) (h : LivS d 20000 3000) (hF : FoldIs d [txM vi vr va vd, txM vi vr va vd, txM vi vr va vd] k ps e) : k = 2 ∧ ps.length = 2 ∧ feeL ps = 10000 ∧ e = 22 ∧ LivS (dAt d [txM vi vr va vd, txM vi vr va vd, txM vi vr va vd] k) 4000 9000 := by
 obtain ⟨hle, hlen, hout, hfin⟩ := hF
 generalize hX : txM vi vr va vd = X at *
 have hs0 := dAt_0 d [X, X, X]
 have h0 : errF (dAt d [X, X, X] 0) X = 0 ∧ LivS (dAt d [X, X, X] 1) 12000 6000 := by
  rw [dAt_step (k := 0) (by simp), hs0, ← hX]
  exact nextM20000_3000 vi vr va vd hok h
 have ok1 : StOk (dAt d [X, X, X] 1) := (dAt_ok hok (livs_ok h (by decide) (by decide)) 1).1
 have h1 : errF (dAt d [X, X, X] 1) X = 0 ∧ LivS (dAt d [X, X, X] 2) 4000 9000 := by
  rw [dAt_step (k := 1) (by simp)]
  show errF (dAt d [X, X, X] 1) X = 0 ∧ LivS (nextF (dAt d [X, X, X] 1) X) 4000 9000
  rw [← hX]
  rw [← hX] at h0 ok1
  exact nextM12000_6000 vi vr va vd ok1 h0.2
 have h2 : errF (dAt d [X, X, X] 2) X = 22 := by
  have := stopM vi vr va vd h1.2
  rw [hX] at this; exact this
 have hk : k = 2 := by
  simp only [List.length_cons, List.length_nil] at hle
  rcases hfin with ⟨h, _⟩ | ⟨h, he, hne⟩
  ·have h : k = 3 := h
   obtain ⟨_, hz⟩ := hout 2 (by omega) (by simp)
   have hz : errF (dAt d [X, X, X] 2) X = 0 := hz
   rw [h2] at hz; cases hz
  ·have h : k < 3 := h
   rcases (by omega : k = 0 ∨ k = 1 ∨ k = 2) with rfl | rfl | rfl
   ·exact absurd (he.trans h0.1) hne
   ·exact absurd (he.trans h1.1) hne
   ·rfl
 subst hk
 obtain ⟨p, q, rfl⟩ : ∃ p q, ps = [p, q] := by
  match ps, hlen with
  | [p, q], _ => exact ⟨p, q, rfl⟩
 have f1 : p.1.fee = 5000 := by
  obtain ⟨a, b⟩ := hout 0 (by simp) (by simp)
  have a : OcIs (dAt d [X, X, X] 0) X p.1 p.2 := a
  have b : errF (dAt d [X, X, X] 0) X = 0 := b
  rw [← hX] at a b
  exact a.fee5 b
 have f2 : q.1.fee = 5000 := by
  obtain ⟨a, b⟩ := hout 1 (by simp) (by simp)
  have a : OcIs (dAt d [X, X, X] 1) X q.1 q.2 := a
  have b : errF (dAt d [X, X, X] 1) X = 0 := b
  rw [← hX] at a b
  exact a.fee5 b
 refine ⟨rfl, rfl, ?_, ?_, h1.2⟩
 ·unfold feeL
  simp only [List.foldl_cons, List.foldl_nil, f1, f2]
  decide +kernel
 ·rcases hfin with ⟨h, _⟩ | ⟨h, he, hne⟩
  ·exact absurd h (by simp)
  ·exact he.trans h2

theorem accParts (n : Nat) : setParts [#[.int .u64 0], Array.replicate 32 (.int .u8 0), #[.int .u64 0]] [(0, .int .u64 (n : Int))] = Account.parts ⟨n, vz 32, 0⟩ := by
 simp only [Account.parts, setParts, enc_vz]; rfl

set_option maxRecDepth 20000 in
set_option maxHeartbeats 2000000 in
theorem lives16 (w0 : World) (hg : ErrLaid w0) : Ret Tryd.prog 7 #[] w0 (fun r w' => r = .bool true ∧ Bel w0 w') := by
 refine Ret.enter (args := []) Tryd.func7 rfl Tryd.ntmps7 Tryd.results7 rfl ?_
 have hS := St.start w0
 refine WC.seq (fun K1 hK1 => ?_)
 refine WC.region ?_
 refine WL.op rfl (opW.assignB rfl ?_)
 refine WL.nil ?_
 refine thenQ_n (hK1 _ _ ?_)
 refine WC.seq (fun K2 hK2 => ?_)
 refine WC.region ?_
 refine WL.op rfl (opW.buildVec (k := kk8) (by first | rfl | (simp only [sysK, az, budK, kk8, kk9, enc_vset, enc_vz]; rfl)) (by intro p hp; first | (exfalso; simp at hp; done) | (simp only [List.map_cons, List.map_nil, List.mem_cons, List.not_mem_nil, or_false] at hp; rcases hp with rfl | rfl | rfl | rfl <;> exact ⟨by simp, rfl⟩)) ?_)
 refine WL.op rfl (opW.allocA hS ?_)
 intro b1 w _ hS
 refine WL.op0 (opW.storeE hS rfl rfl (by repeat constructor) (by first | rfl | exact Enc.size_eq _) ?_)
 intro w hS; replace hS := hS _ (by repeat constructor)
 refine WL.nil ?_
 refine thenQ_n (hK2 _ _ ?_)
 refine WC.seq (fun K3 hK3 => ?_)
 refine WC.region ?_
 refine WL.op rfl (opW.buildVec (k := kk9) (by first | rfl | (simp only [sysK, az, budK, kk8, kk9, enc_vset, enc_vz]; rfl)) (by intro p hp; first | (exfalso; simp at hp; done) | (simp only [List.map_cons, List.map_nil, List.mem_cons, List.not_mem_nil, or_false] at hp; rcases hp with rfl | rfl | rfl | rfl <;> exact ⟨by simp, rfl⟩)) ?_)
 refine WL.op rfl (opW.allocA hS ?_)
 intro b2 w _ hS
 refine WL.op0 (opW.storeE hS rfl rfl (by repeat constructor) (by first | rfl | exact Enc.size_eq _) ?_)
 intro w hS; replace hS := hS _ (by repeat constructor)
 refine WL.nil ?_
 refine thenQ_n (hK3 _ _ ?_)
 refine WC.seq (fun K4 hK4 => ?_)
 refine WC.region ?_
 refine WL.op rfl (opW.loadV rfl (hS.ldA (b := b1) (cs := Enc.enc kk8) (by repeat constructor) (Enc.size_eq kk8)) ?_)
 refine WL.op rfl (opW.loadV rfl (hS.ldA (b := b2) (cs := Enc.enc kk9) (by repeat constructor) (Enc.size_eq kk9)) ?_)
 refine WL.op rfl (opW.call (move16 _ kk8 kk9) rfl ?_)
 rintro _ w ⟨va, vd, vi, vr, rfl, hN5⟩
 replace hS := hS.merge hN5
 simp only [List.cons_append, List.nil_append] at hS
 refine WL.op rfl (opW.allocA hS ?_)
 intro b3 w _ hS
 refine WL.op0 (opW.storeE hS rfl rfl (by repeat constructor) (by first | rfl | exact Enc.size_eq _) ?_)
 intro w hS; replace hS := hS _ (by repeat constructor)
 refine WL.nil ?_
 refine thenQ_n (hK4 _ _ ?_)
 refine WC.seq (fun K5 hK5 => ?_)
 refine WC.region ?_
 refine WL.op rfl (opW.call (new13 _) rfl ?_)
 rintro _ w ⟨p, d, rfl, hd0, hok0, hN, hw⟩; replace hS := hS.newE hw hN
 refine WL.op rfl (opW.assignV (v := .pointer (some ⟨p, 0, none⟩)) rfl ?_)
 refine WL.nil ?_
 refine thenQ_n (hK5 _ _ ?_)
 refine WC.seq (fun K6 hK6 => ?_)
 refine WC.region ?_
 refine WL.op rfl (opW.moveV (v := .pointer (some ⟨p, 0, none⟩)) rfl ?_)
 refine WL.op rfl (opW.loadV rfl (hS.ldA (b := b1) (cs := Enc.enc kk8) (by repeat constructor) (Enc.size_eq kk8)) ?_)
 refine WL.op rfl (opW.buildE (r := aC 20000) (ps := Account.parts (aC 20000)) (Account.enc_eq _) (by exact accParts 20000) (by exact fitO ⟨by decide, rfl, trivial⟩) ?_)
 refine WL.op rfl (opW.call (put13 w0 _ _ p d kk8 (aC 20000) (hS.pick (e := stE p d) (by repeat constructor))) rfl ?_)
 rintro _ w ⟨rfl, hS⟩
 obtain ⟨d1, hd1⟩ : ∃ x, d.put kk8 (aC 20000) = x := ⟨_, rfl⟩
 rw [hd1] at hS
 have hok1 : StOk d1 := hd1 ▸ hok0.put _ _
 have hL1 : LivS d1 20000 0 := hd1 ▸ livPut hok0 (a := 0) (b := 0) (fun k => (by rw [hd0 k]; split; exact aC0.symm; split; exact aC0.symm; rfl)) 20000
 have hs1 := livs_ok hL1 (by decide) (by decide)
 refine WL.nil ?_
 refine thenQ_n (hK6 _ _ ?_)
 refine WC.seq (fun K7 hK7 => ?_)
 refine WC.region ?_
 have hP := hS.pick (e := stE p d1) (by repeat constructor)
 refine WL.op rfl (opW.moveV (v := .pointer (some ⟨p, 0, none⟩)) rfl ?_)
 refine WL.op rfl (opW.loadV rfl (hS.ldA (b := b3) (cs := Enc.enc (mvR vi vr)) (by repeat constructor) (Enc.size_eq (mvR vi vr))) ?_)
 refine WL.op rfl (opW.call (apply16 w0 _ _ p d1 (txM vi vr va vd) hok1 hs1 hg (fun w hS => txM_ok (hS.sl (v := vr.v) (xs := rsL kk8 kk9) (by repeat constructor)) (hS.sl (v := vi.v) (xs := ([⟨2, va, vd⟩] : List Instr)) (by repeat constructor)) (hS.sl (v := va.v) (xs := ([0, 1] : List UInt8)) (by repeat constructor)) (hS.sl (v := vd.v) (xs := dt16) (by repeat constructor))) hP) rfl ?_)
 rintro _ w ⟨o, ch, rfl, hoc, hS⟩
 obtain ⟨he1, hL2⟩ := nextM20000_0 vi vr va vd hok1 hL1
 have hok2 := (nextF_ok (x := (txM vi vr va vd)) hok1 hs1).1
 have hfe := hoc.fee5 he1
 rw [he1]
 obtain ⟨d2, hd2⟩ : ∃ x, nextF d1 (txM vi vr va vd) = x := ⟨_, rfl⟩
 rw [hd2] at hS hL2 hok2
 refine WL.op rfl (opW.moveV (v := .tuple #[.agg (Enc.enc o), .int .i64 0]) rfl ?_)
 refine WL.op rfl (opW.extract rfl rfl ?_)
 refine WL.op rfl (opW.extract rfl rfl ?_)
 refine WL.op rfl (opW.allocA hS ?_)
 intro b5 w _ hS
 refine WL.op0 (opW.storeE hS rfl rfl (by repeat constructor) (by first | rfl | exact Enc.size_eq _) ?_)
 intro w hS; replace hS := hS _ (by repeat constructor)
 refine WL.op rfl (opW.assignI rfl ?_)
 refine WL.nil ?_
 refine thenQ_n (hK7 _ _ ?_)
 refine WC.seq (fun K8 hK8 => ?_)
 refine WC.seq (fun K9 hK9 => ?_)
 refine WC.region ?_
 refine WL.op rfl (opW.moveI rfl ?_)
 refine WL.op rfl (opW.boolF (rfl) (opW.neq rfl rfl ⟨rfl, rfl⟩) ?_)
 refine WL.op rfl (opW.moveB rfl ?_)
 refine WL.gT 28 rfl rfl rfl (WL.op rfl (opW.fieldAddrB rfl ?_))
 refine WL.gT 28 rfl rfl rfl (WL.op rfl (opW.loadV rfl ((hS.ld1 (b := b5) (cs := Enc.enc o) (by repeat constructor) (Outcome.at_fee o)).val (congrArg (fun n : Nat => Value.int .u64 (n : Int)) hfe)) ?_))
 refine WL.gT 28 rfl rfl rfl (WL.op rfl (opW.boolF (rfl) (opW.neq rfl rfl ⟨rfl, rfl⟩) ?_))
 refine WL.op rfl (opW.pickT rfl rfl ?_)
 refine WL.op rfl (opW.moveB rfl ?_)
 refine WL.gT 33 rfl rfl rfl (WL.op rfl (opW.moveV (v := .pointer (some ⟨p, 0, none⟩)) rfl ?_))
 refine WL.gT 33 rfl rfl rfl (WL.op rfl (opW.loadV rfl (hS.ldA (b := b2) (cs := Enc.enc kk9) (by repeat constructor) (Enc.size_eq kk9)) ?_))
 refine WL.gT 33 rfl rfl rfl (WL.op rfl (opW.call (get13 _ p d2 kk9 (hS.stAt (by repeat constructor))) rfl ?_))
 rintro _ w ⟨rfl, hw⟩; replace hS := hS.bel hw
 refine WL.gT 33 rfl rfl rfl (WL.op rfl (opW.fieldS (cs := Enc.enc (d2.get kk9)) (v := .int .u64 ((3000 : Nat) : Int)) rfl (by kernel_rfl) (by rw [hL2 kk9, if_neg kk_ne.1, if_pos rfl]; exact Account.at_coins (aC 3000)) ?_))
 refine WL.gT 33 rfl rfl rfl (WL.op rfl (opW.boolF (rfl) (opW.neq rfl rfl ⟨rfl, rfl⟩) ?_))
 refine WL.op rfl (opW.pickT rfl rfl ?_)
 refine WL.op rfl (opW.moveB rfl ?_)
 refine WL.gT 40 rfl rfl rfl (WL.op rfl (opW.moveV (v := .pointer (some ⟨p, 0, none⟩)) rfl ?_))
 refine WL.gT 40 rfl rfl rfl (WL.op rfl (opW.loadV rfl (hS.ldA (b := b1) (cs := Enc.enc kk8) (by repeat constructor) (Enc.size_eq kk8)) ?_))
 refine WL.gT 40 rfl rfl rfl (WL.op rfl (opW.call (get13 _ p d2 kk8 (hS.stAt (by repeat constructor))) rfl ?_))
 rintro _ w ⟨rfl, hw⟩; replace hS := hS.bel hw
 refine WL.gT 40 rfl rfl rfl (WL.op rfl (opW.fieldS (cs := Enc.enc (d2.get kk8)) (v := .int .u64 ((12000 : Nat) : Int)) rfl (by kernel_rfl) (by rw [hL2 kk8, if_pos rfl]; exact Account.at_coins (aC 12000)) ?_))
 refine WL.gT 40 rfl rfl rfl (WL.op rfl (opW.boolF (rfl) (opW.neq rfl rfl ⟨rfl, rfl⟩) ?_))
 refine WL.op rfl (opW.pickT rfl rfl ?_)
 refine WL.nil ?_
 refine thenQ_n (hK9 _ _ ?_)
 refine WC.cond _ rfl (fun hc0 => ?_) (fun hc0 => ?_)
 ·
  have hr0 := hc0
  try simp only [sq1,sq2,sq3,sq4,sq5,sq6,sq7,sq8,sq9,sq0] at hc0
  cases hr0
 ·
  have hr0 := hc0
  try simp only [sq1,sq2,sq3,sq4,sq5,sq6,sq7,sq8,sq9,sq0] at hc0
  refine WC.skip ?_
  refine thenQ_n (hK8 _ _ ?_)
  refine WC.seq (fun K10 hK10 => ?_)
  refine WC.region ?_
  refine WL.op rfl (opW.moveV (v := .pointer (some ⟨p, 0, none⟩)) rfl ?_)
  refine WL.op rfl (opW.loadV rfl (hS.ldA (b := b1) (cs := Enc.enc kk8) (by repeat constructor) (Enc.size_eq kk8)) ?_)
  refine WL.op rfl (opW.buildE (r := aC 20000) (ps := Account.parts (aC 20000)) (Account.enc_eq _) (by exact accParts 20000) (by exact fitO ⟨by decide, rfl, trivial⟩) ?_)
  refine WL.op rfl (opW.call (put13 w0 _ _ p d2 kk8 (aC 20000) (hS.pick (e := stE p d2) (by repeat constructor))) rfl ?_)
  rintro _ w ⟨rfl, hS⟩
  obtain ⟨d3, hd3⟩ : ∃ x, d2.put kk8 (aC 20000) = x := ⟨_, rfl⟩
  rw [hd3] at hS
  have hok3 : StOk d3 := hd3 ▸ hok2.put _ _
  have hL3 : LivS d3 20000 3000 := hd3 ▸ livPut hok2 hL2 20000
  have hs3 := livs_ok hL3 (by decide) (by decide)
  refine WL.nil ?_
  refine thenQ_n (hK10 _ _ ?_)
  refine WC.seq (fun K11 hK11 => ?_)
  refine WC.region ?_
  refine WL.op rfl (opW.moveV (v := .pointer (some ⟨p, 0, none⟩)) rfl ?_)
  refine WL.op rfl (opW.loadV rfl (hS.ldA (b := b3) (cs := Enc.enc (mvR vi vr)) (by repeat constructor) (Enc.size_eq (mvR vi vr))) ?_)
  refine WL.op rfl (opW.loadV rfl (hS.ldA (b := b3) (cs := Enc.enc (mvR vi vr)) (by repeat constructor) (Enc.size_eq (mvR vi vr))) ?_)
  refine WL.op rfl (opW.loadV rfl (hS.ldA (b := b3) (cs := Enc.enc (mvR vi vr)) (by repeat constructor) (Enc.size_eq (mvR vi vr))) ?_)
  refine WL.op rfl (opW.buildSl hS ([(mvR vi vr), (mvR vi vr), (mvR vi vr)] : List Ready) [.agg (Enc.enc (mvR vi vr)), .agg (Enc.enc (mvR vi vr)), .agg (Enc.enc (mvR vi vr))] rfl rfl rfl rfl (by decide) ?_)
  intro b56 w hw hS
  have hP := hS.pick (e := stE p d3) (by repeat constructor)
  refine WL.op rfl (opW.call (fold_ok w0 _ _ p ⟨some ⟨b56, 0, none⟩, 3, 3⟩ [(txM vi vr va vd), (txM vi vr va vd), (txM vi vr va vd)] d3 hg hok3 hs3 (by show 3 ≤ 100000; decide) (fun w hS => ⟨hS.sl (v := .slice (some ⟨b56, 0, none⟩) 3 3) (xs := ([(mvR vi vr), (mvR vi vr), (mvR vi vr)] : List Ready)) (by repeat constructor), fun x hx => (by have hxx : x = (txM vi vr va vd) := (by simpa using hx); subst hxx; exact txM_ok (hS.sl (v := vr.v) (xs := rsL kk8 kk9) (by repeat constructor)) (hS.sl (v := vi.v) (xs := ([⟨2, va, vd⟩] : List Instr)) (by repeat constructor)) (hS.sl (v := va.v) (xs := ([0, 1] : List UInt8)) (by repeat constructor)) (hS.sl (v := vd.v) (xs := dt16) (by repeat constructor)))⟩) hP) rfl ?_)
  rintro _ w ⟨k, so, ps, e, rfl, hF, hS⟩
  obtain ⟨hk, hpl, hfl, he2, hL4⟩ := livFold hok3 hL3 hF
  rw [he2, hfl]
  obtain ⟨d4, hd4⟩ : ∃ x, dAt d3 [(txM vi vr va vd), (txM vi vr va vd), (txM vi vr va vd)] k = x := ⟨_, rfl⟩
  rw [hd4] at hS hL4
  have hpm : (ps.map Prod.fst).length = 2 := by rw [List.length_map]; exact hpl
  refine WL.op rfl (opW.moveV (v := .tuple #[so.v, .int .u64 ((10000 : Nat) : Int), .int .i64 22]) rfl ?_)
  refine WL.op rfl (opW.extract rfl rfl ?_)
  refine WL.op rfl (opW.extract rfl rfl ?_)
  refine WL.op rfl (opW.extract rfl rfl ?_)
  refine WL.op rfl (opW.assignV (v := so.v) rfl ?_)
  refine WL.op rfl (opW.assignI rfl ?_)
  refine WL.op rfl (opW.assignI rfl ?_)
  refine WL.nil ?_
  refine thenQ_n (hK11 _ _ ?_)
  refine WC.seq (fun K12 hK12 => ?_)
  refine WC.region ?_
  refine WL.op rfl (opW.moveV (v := so.v) rfl ?_)
  refine WL.op rfl (opW.lenV rfl ((hS.sl (v := so.v) (xs := ps.map Prod.fst) (by repeat constructor))) ?_)
  refine WL.op rfl (opW.boolT (decide_eq_true (by omega)) (opW.eql rfl rfl ⟨rfl, rfl⟩) ?_)
  refine WL.op rfl (opW.moveB rfl ?_)
  refine WL.gT 64 rfl rfl rfl (WL.op rfl (opW.moveI rfl ?_))
  refine WL.gT 64 rfl rfl rfl (WL.op rfl (opW.boolT (rfl) (opW.eql rfl rfl ⟨rfl, rfl⟩) ?_))
  refine WL.op rfl (opW.pickT rfl rfl ?_)
  refine WL.op rfl (opW.moveB rfl ?_)
  refine WL.gT 68 rfl rfl rfl (WL.op rfl (opW.moveI rfl ?_))
  refine WL.gT 68 rfl rfl rfl (WL.op rfl (opW.boolT (rfl) (opW.eql rfl rfl ⟨rfl, rfl⟩) ?_))
  refine WL.op rfl (opW.pickT rfl rfl ?_)
  refine WL.op rfl (opW.moveB rfl ?_)
  refine WL.gT 72 rfl rfl rfl (WL.op rfl (opW.moveV (v := .pointer (some ⟨p, 0, none⟩)) rfl ?_))
  refine WL.gT 72 rfl rfl rfl (WL.op rfl (opW.loadV rfl (hS.ldA (b := b1) (cs := Enc.enc kk8) (by repeat constructor) (Enc.size_eq kk8)) ?_))
  refine WL.gT 72 rfl rfl rfl (WL.op rfl (opW.call (get13 _ p d4 kk8 (hS.stAt (by repeat constructor))) rfl ?_))
  rintro _ w ⟨rfl, hw⟩; replace hS := hS.bel hw
  refine WL.gT 72 rfl rfl rfl (WL.op rfl (opW.fieldS (cs := Enc.enc (d4.get kk8)) (v := .int .u64 ((4000 : Nat) : Int)) rfl (by kernel_rfl) (by rw [hL4 kk8, if_pos rfl]; exact Account.at_coins (aC 4000)) ?_))
  refine WL.gT 72 rfl rfl rfl (WL.op rfl (opW.boolT (rfl) (opW.eql rfl rfl ⟨rfl, rfl⟩) ?_))
  refine WL.op rfl (opW.pickT rfl rfl ?_)
  refine WL.op rfl (opW.assignB rfl ?_)
  refine WL.nil ?_
  refine thenQ_n (hK12 _ _ ?_)
  refine WC.ret ?_
  refine bodyQ_ret (.tmpB rfl .nil) ?_
  exact ⟨rfl, hS.old⟩

end Go.Fer
