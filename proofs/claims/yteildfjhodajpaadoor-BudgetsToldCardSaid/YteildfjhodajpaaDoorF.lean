/- BudgetsOthers -/
import Derived.Test.YteildfjhodajpaaDoorE
set_option linter.all false
namespace Go.Fer
open Go Go.Proofs Go.RowKit

theorem ds_of {w : World} : ∀ {ins : List Instr}, (∀ e ∈ ins, Instr.okz w e) → ∃ ds, DIs w ins ds
  | [], _ => ⟨[], DIs.nil w⟩
  | x :: ins, h => by
    obtain ⟨ds, hd⟩ := ds_of (ins := ins) (fun e he => h e (List.mem_cons_of_mem _ he))
    obtain ⟨_, ⟨d, h1, _⟩⟩ := h x List.mem_cons_self
    exact ⟨d :: ds, (DIs.one h1).append hd⟩
theorem stF_eq (keys : List (Vector UInt8 32)) (ins : List Instr) (ds : List (List UInt8)) : bfold (wAt keys ins) (fun i => ds.getD i []) ins.length = stF keys ins ds := rfl
def budF (keys : List (Vector UInt8 32)) (ins : List Instr) (ds : List (List UInt8)) : Budget := budR (stF keys ins ds)
theorem stF_ok (keys : List (Vector UInt8 32)) (ins : List Instr) (ds : List (List UInt8)) : okS (stF keys ins ds) := bfold_ok _ _ _
theorem stF_others (keys : List (Vector UInt8 32)) (ins : List Instr) (ds : List (List UInt8)) : (stF keys ins ds).others ≤ ins.length := bfold_others _ _ _
theorem budF_lim (keys : List (Vector UInt8 32)) (ins : List Instr) (ds : List (List UInt8)) : (budF keys ins ds).units ≤ 1400000 := by
  unfold budF budR
  exact Nat.min_le_right _ _
theorem minN2 (a c : Nat) : (if (c : Int) < (a : Int) then (c : Int) else (a : Int)) = ((min a c : Nat) : Int) := by rw [Nat.min_def]; split <;> split <;> omega
theorem min_add (x : Nat) : min (x + 1 * 200000) 1400000 = min 1400000 (min x 1400000 + 200000) := by
  rw [Nat.one_mul]
  rcases Nat.lt_or_ge x 1200000 with h | h
  · rw [Nat.min_eq_left (show x ≤ 1400000 by omega), Nat.min_eq_left (by omega), Nat.min_eq_right (by omega)]
  · rw [Nat.min_eq_right (show 1400000 ≤ x + 200000 by omega), Nat.min_eq_left]
    rcases Nat.lt_or_ge x 1400000 with h2 | h2
    · rw [Nat.min_eq_left (by omega)]; omega
    · rw [Nat.min_eq_right h2]; omega
/-- another program's word more -/
theorem budF_other {keys : List (Vector UInt8 32)} {ins : List Instr} {ds : List (List UInt8)} {x : Instr} {d : List UInt8} (hl : ins.length = ds.length) (hw : isW keys x.program = false) :
    (budF keys (ins ++ [x]) (ds ++ [d])).price = (budF keys ins ds).price ∧ (budF keys (ins ++ [x]) (ds ++ [d])).bad = (budF keys ins ds).bad ∧
    ((budF keys (ins ++ [x]) (ds ++ [d])).units = (budF keys ins ds).units ∨ (budF keys (ins ++ [x]) (ds ++ [d])).units = min 1400000 ((budF keys ins ds).units + 200000)) := by
  unfold budF
  rw [stF_snoc hl, hw, bstep_not]
  generalize stF keys ins ds = s
  refine ⟨rfl, rfl, ?_⟩
  unfold budR
  simp only
  cases s.S 0 with
  | some n => left; simp only [Option.getD_some]
  | none =>
    right
    simp only [Option.getD_none]
    rw [Nat.add_mul]
    exact min_add _

theorem others_law (w0 : World) (m : Message) (i : Instr) (hm : m.okz w0) (hi : i.okz w0) (hld : Laid w0) : Ret Tryd.prog 6 #[.agg (Enc.enc m), .agg (Enc.enc i)] w0 (fun r w' => r = .bool true ∧ Bel w0 w') := by
  refine Ret.enter (args := [.agg (Enc.enc m), .agg (Enc.enc i)]) Tryd.func6 rfl Tryd.ntmps6 Tryd.results6 rfl ?_
  have hS := St.start w0
  have hm0 := hm
  obtain ⟨_, ⟨keys, hkeys, hkl0, _⟩, ⟨ins, hins, hil0, hiok⟩, _⟩ := hm0
  obtain ⟨ds, hds⟩ := ds_of hiok
  have hi0 := hi
  obtain ⟨_, ⟨d, hd, _⟩⟩ := hi0
  refine WC.seq (fun K1 hK1 => ?_)
  refine WC.region ?_
  refine WL.op rfl (opW.boxA hS rfl ?_)
  intro b2 w _ hS
  refine WL.op rfl (opW.boxA hS rfl ?_)
  intro b3 w _ hS
  refine WL.op rfl (opW.assignB rfl ?_)
  refine WL.nil ?_
  refine thenQ_n (hK1 _ _ ?_)
  refine WC.seq (fun K2 hK2 => ?_)
  refine WC.seq (fun K3 hK3 => ?_)
  refine WC.draw 21 (.look 0 (.one 1 (.look 2 (.look 3 (.look 4 (.look 5 (.look 6 (.look 7 (.look 8 (.look 9 (.look 10 (.look 11 (.look 12 (.look 13 (.look 14 (.look 15 (.look 16 (.one 17 (.look 18 (.look 19 (.look 20 .nil))))))))))))))))))))) (by kernel_rfl) (fun _ _ _ h => h) (fun w1 hw1 => ?_)
  replace hS := hS.bel hw1
  have hS1 := hS
  have hT := St.start w1
  have hlt := u8_lt i.program
  refine ML.look rfl rfl rfl (fun w hw => (by have hS := hS1.bel hw; exact opW.loadV rfl (hS.ldA (cs := Enc.enc m) (by first | exact .here | exact .there (.here) | exact .there (.there (.here)) | exact .there (.there (.there (.here))) | exact .there (.there (.there (.there (.here)))) | exact .there (.there (.there (.there (.there (.here))))) | exact .there (.there (.there (.there (.there (.there (.here)))))) | exact .there (.there (.there (.there (.there (.there (.there (.here))))))) | exact .there (.there (.there (.there (.there (.there (.there (.there (.here)))))))) | exact .there (.there (.there (.there (.there (.there (.there (.there (.there (.here))))))))) | exact .there (.there (.there (.there (.there (.there (.there (.there (.there (.there (.here)))))))))) | exact .there (.there (.there (.there (.there (.there (.there (.there (.there (.there (.there (.here))))))))))) | exact .there (.there (.there (.there (.there (.there (.there (.there (.there (.there (.there (.there (.here))))))))))))) (Enc.size_eq m)) ⟨rfl, rfl⟩)) ?_
  refine ML.one rfl rfl rfl (opW.call (great9_ok _ m (hm.bel hS.old) ins (hins.bel hS.old) (by omega) (fun e he => (hiok e he).bel hS.old)) rfl ?_)
  rintro _ w ⟨bb, rfl, hbb, hw⟩; replace hT := hT.bel hw
  refine ⟨hT.old, ?_⟩
  have hS := hS1.merge hT
  try simp only [List.cons_append, List.nil_append] at hS
  refine ML.look rfl rfl rfl (fun w hw => (by have hS := hS1.bel hw; exact opW.moveB rfl ⟨rfl, rfl⟩)) ?_
  refine ML.lookG  _ 10 rfl rfl rfl rfl rfl rfl (fun hg11 w hw => (by have hS := hS1.bel hw; exact opW.fieldAddrB rfl ⟨rfl, rfl⟩)) ?_
  refine ML.lookG (E := (.int .u8 (i.program.toNat : Int))) _ 10 rfl rfl rfl rfl rfl rfl (fun hg12 w hw => (by have hS := hS1.bel hw; exact opW.loadV (by first | exact gv_of rfl hg12 | rfl) (hS.ld1 (by first | exact .here | exact .there (.here) | exact .there (.there (.here)) | exact .there (.there (.there (.here))) | exact .there (.there (.there (.there (.here)))) | exact .there (.there (.there (.there (.there (.here))))) | exact .there (.there (.there (.there (.there (.there (.here)))))) | exact .there (.there (.there (.there (.there (.there (.there (.here))))))) | exact .there (.there (.there (.there (.there (.there (.there (.there (.here)))))))) | exact .there (.there (.there (.there (.there (.there (.there (.there (.there (.here))))))))) | exact .there (.there (.there (.there (.there (.there (.there (.there (.there (.there (.here)))))))))) | exact .there (.there (.there (.there (.there (.there (.there (.there (.there (.there (.there (.here))))))))))) | exact .there (.there (.there (.there (.there (.there (.there (.there (.there (.there (.there (.there (.here))))))))))))) (Instr.at_program i)) ⟨rfl, rfl⟩)) ?_
  refine ML.lookG (E := (.int .i64 (i.program.toNat : Int))) _ 10 rfl rfl rfl rfl rfl rfl (fun hg13 w hw => (by have hS := hS1.bel hw; exact opW.conv (by first | exact gv_of rfl hg13 | rfl) (show IntKind.i64.wrap _ = (i.program.toNat : Int) from wrap_i64 (by omega)) ⟨rfl, rfl⟩)) ?_
  refine ML.lookG  _ 10 rfl rfl rfl rfl rfl rfl (fun hg14 w hw => (by have hS := hS1.bel hw; exact opW.fieldAddrB rfl ⟨rfl, rfl⟩)) ?_
  refine ML.lookG (E := m.keys.v) _ 10 rfl rfl rfl rfl rfl rfl (fun hg15 w hw => (by have hS := hS1.bel hw; exact opW.loadV (by first | exact gv_of rfl hg15 | rfl) (hS.ld1 (by first | exact .here | exact .there (.here) | exact .there (.there (.here)) | exact .there (.there (.there (.here))) | exact .there (.there (.there (.there (.here)))) | exact .there (.there (.there (.there (.there (.here))))) | exact .there (.there (.there (.there (.there (.there (.here)))))) | exact .there (.there (.there (.there (.there (.there (.there (.here))))))) | exact .there (.there (.there (.there (.there (.there (.there (.there (.here)))))))) | exact .there (.there (.there (.there (.there (.there (.there (.there (.there (.here))))))))) | exact .there (.there (.there (.there (.there (.there (.there (.there (.there (.there (.here)))))))))) | exact .there (.there (.there (.there (.there (.there (.there (.there (.there (.there (.there (.here))))))))))) | exact .there (.there (.there (.there (.there (.there (.there (.there (.there (.there (.there (.there (.here))))))))))))) (Message.at_keys m)) ⟨rfl, rfl⟩)) ?_
  refine ML.lookG (E := (.int .i64 (keys.length : Int))) _ 10 rfl rfl rfl rfl rfl rfl (fun hg16 w hw => (by have hS := hS1.bel hw; exact opW.lenV (by first | exact gv_of rfl hg16 | rfl) ((hkeys.bel hS.old)) ⟨rfl, rfl⟩)) ?_
  refine ML.lookG (E := (.bool (decide ((i.program.toNat : Int) < (keys.length : Int))))) _ 10 rfl rfl rfl rfl rfl rfl (fun hg17 w hw => (by have hS := hS1.bel hw; exact opW.lss (by first | exact gv_of rfl hg17 | rfl) (by first | exact gv_of rfl hg17 | rfl) ⟨rfl, rfl⟩)) ?_
  refine ML.lookG (E := (.bool (decide ((i.program.toNat : Int) < (keys.length : Int))))) _ 10 rfl rfl rfl rfl rfl rfl (fun hg18 w hw => (by have hS := hS1.bel hw; exact opW.moveB (by first | exact gv_of rfl hg18 | rfl) ⟨rfl, rfl⟩)) ?_
  refine ML.lookG2 _  _ 18 rfl rfl rfl rfl rfl rfl (fun hg19 w hw => (by have hS := hS1.bel hw; exact opW.fieldAddrB rfl ⟨rfl, rfl⟩)) ?_
  refine ML.lookG2 _ (E := m.keys.v) _ 18 rfl rfl rfl rfl rfl rfl (fun hg20 w hw => (by have hS := hS1.bel hw; exact opW.loadV (by first | exact gv_of rfl hg20 | rfl) (hS.ld1 (by first | exact .here | exact .there (.here) | exact .there (.there (.here)) | exact .there (.there (.there (.here))) | exact .there (.there (.there (.there (.here)))) | exact .there (.there (.there (.there (.there (.here))))) | exact .there (.there (.there (.there (.there (.there (.here)))))) | exact .there (.there (.there (.there (.there (.there (.there (.here))))))) | exact .there (.there (.there (.there (.there (.there (.there (.there (.here)))))))) | exact .there (.there (.there (.there (.there (.there (.there (.there (.there (.here))))))))) | exact .there (.there (.there (.there (.there (.there (.there (.there (.there (.there (.here)))))))))) | exact .there (.there (.there (.there (.there (.there (.there (.there (.there (.there (.there (.here))))))))))) | exact .there (.there (.there (.there (.there (.there (.there (.there (.there (.there (.there (.there (.here))))))))))))) (Message.at_keys m)) ⟨rfl, rfl⟩)) ?_
  refine ML.lookG2 _  _ 18 rfl rfl rfl rfl rfl rfl (fun hg21 w hw => (by have hS := hS1.bel hw; exact opW.fieldAddrB rfl ⟨rfl, rfl⟩)) ?_
  refine ML.lookG2 _ (E := (.int .u8 (i.program.toNat : Int))) _ 18 rfl rfl rfl rfl rfl rfl (fun hg22 w hw => (by have hS := hS1.bel hw; exact opW.loadV (by first | exact gv_of rfl hg22 | rfl) (hS.ld1 (by first | exact .here | exact .there (.here) | exact .there (.there (.here)) | exact .there (.there (.there (.here))) | exact .there (.there (.there (.there (.here)))) | exact .there (.there (.there (.there (.there (.here))))) | exact .there (.there (.there (.there (.there (.there (.here)))))) | exact .there (.there (.there (.there (.there (.there (.there (.here))))))) | exact .there (.there (.there (.there (.there (.there (.there (.there (.here)))))))) | exact .there (.there (.there (.there (.there (.there (.there (.there (.there (.here))))))))) | exact .there (.there (.there (.there (.there (.there (.there (.there (.there (.there (.here)))))))))) | exact .there (.there (.there (.there (.there (.there (.there (.there (.there (.there (.there (.here))))))))))) | exact .there (.there (.there (.there (.there (.there (.there (.there (.there (.there (.there (.there (.here))))))))))))) (Instr.at_program i)) ⟨rfl, rfl⟩)) ?_
  refine ML.lookG2 _ (E := (elemP m.keys.v i.program.toNat (Enc.sz (Vector UInt8 32)))) _ 18 rfl rfl rfl rfl rfl rfl (fun hg23 w hw => (by have hS := hS1.bel hw; have hgx : (i.program.toNat : Int) < (keys.length : Int) := (by have h9 : bb = false ∧ i.program.toNat < keys.length := (by simpa using hg23); omega); exact opW.idxV (by first | exact gv_of rfl hg23 | rfl) ((hkeys.bel hS.old)) (by first | exact gv_of rfl hg23 | rfl) (by omega) (k := .u8) (i := (i.program.toNat : Int)) (v := m.keys.v) ⟨rfl, rfl⟩)) ?_
  refine ML.lookG2 _ (E := (.agg (Enc.enc (keys.getD i.program.toNat (vz 32))))) _ 18 rfl rfl rfl rfl rfl rfl (fun hg24 w hw => (by have hS := hS1.bel hw; exact opW.loadV (by first | exact gv_of rfl hg24 | rfl) ((by have h0 : i.program.toNat < keys.length := (by have hgx : (i.program.toNat : Int) < (keys.length : Int) := (by have h9 : bb = false ∧ i.program.toNat < keys.length := (by simpa using hg24); omega); omega); have h2 := (hkeys.bel hS.old).isPt h0; rw [show keys[i.program.toNat] = keys.getD i.program.toNat (vz 32) by simp [List.getD, h0]] at h2; exact h2.ldA (Enc.size_eq _))) ⟨rfl, rfl⟩)) ?_
  refine ML.oneG2 (.agg (Enc.enc budK)) _ _ 18 hT.old rfl rfl rfl rfl rfl rfl (fun hg25 => opW.call (bud_ok _) rfl (fun _ _ h => h)) (fun w hw => ?_)
  replace hT := hT.bel hw
  have hS := hS1.merge hT
  try simp only [List.cons_append, List.nil_append] at hS
  refine ML.lookG2 _ (E := (.bool (decide (keys.getD i.program.toNat (vz 32) = budK)))) _ 18 rfl rfl rfl rfl rfl rfl (fun hg26 w hw => (by have hS := hS1.bel hw; exact opW.eqlE (by first | exact gv_of rfl hg26 | rfl) (by first | exact gv_of rfl hg26 | rfl) ⟨rfl, rfl⟩)) ?_
  refine ML.lookG (E := (.bool (isW keys i.program))) _ 10 rfl rfl rfl rfl rfl rfl (fun hg27 w hw => (by have hS := hS1.bel hw; exact opW.pickAnd (by first | exact gv_of rfl hg27 | rfl) (by first | exact gv_and rfl hg27 | rfl) rfl ⟨rfl, rfl⟩)) ?_
  refine ML.look rfl rfl rfl (fun w hw => (by have hS := hS1.bel hw; exact opW.pickOr rfl rfl (by first | rfl) ⟨rfl, rfl⟩)) ?_
  refine ML.nil ?_
  refine thenQ_n (hK3 _ _ ?_)
  refine WC.cond _ rfl (fun hc0 => ?_) (fun hc0 => ?_)
  ·
    have hr0 := hc0
    try simp only [decide_eq_true_eq, decide_eq_false_iff_not, Bool.and_eq_true, Bool.or_eq_true, Bool.and_eq_false_iff, Bool.or_eq_false_iff, Bool.not_eq_true', Bool.not_eq_false', Int.not_lt, Int.not_le] at hc0
    refine WC.seq (fun K4 hK4 => ?_)
    refine WC.region ?_
    refine WL.op rfl (opW.call (lives8 _ (hld.bel hS.old)) rfl ?_)
    rintro _ w ⟨rfl, hw⟩; replace hS := hS.bel hw
    refine WL.op rfl (opW.assignB rfl ?_)
    refine WL.nil ?_
    refine thenQ_n (hK4 _ _ ?_)
    refine WC.ret ?_
    refine thenQ_r ?_
    refine bodyQ_ret (.tmpB rfl .nil) ?_
    exact ⟨rfl, hS.old⟩
  ·
    have hr0 := hc0
    try simp only [decide_eq_true_eq, decide_eq_false_iff_not, Bool.and_eq_true, Bool.or_eq_true, Bool.and_eq_false_iff, Bool.or_eq_false_iff, Bool.not_eq_true', Bool.not_eq_false', Int.not_lt, Int.not_le] at hc0
    obtain ⟨hb1, hb2⟩ : bb = false ∧ isW keys i.program = false := by
      simp only [Bool.or_eq_false_iff] at hr0
      exact hr0
    have hdl := hbb hb1
    obtain ⟨q1, q2, q3⟩ := budF_other (d := d) hds.1 hb2
    have hlim := budF_lim keys ins ds
    refine WC.skip ?_
    refine thenQ_n (hK2 _ _ ?_)
    refine WC.seq (fun K5 hK5 => ?_)
    refine WC.region ?_
    refine WL.op rfl (opW.loadV rfl (hS.ldA (cs := Enc.enc m) (by first | exact .here | exact .there (.here) | exact .there (.there (.here)) | exact .there (.there (.there (.here))) | exact .there (.there (.there (.there (.here)))) | exact .there (.there (.there (.there (.there (.here))))) | exact .there (.there (.there (.there (.there (.there (.here)))))) | exact .there (.there (.there (.there (.there (.there (.there (.here))))))) | exact .there (.there (.there (.there (.there (.there (.there (.there (.here)))))))) | exact .there (.there (.there (.there (.there (.there (.there (.there (.there (.here))))))))) | exact .there (.there (.there (.there (.there (.there (.there (.there (.there (.there (.here)))))))))) | exact .there (.there (.there (.there (.there (.there (.there (.there (.there (.there (.there (.here))))))))))) | exact .there (.there (.there (.there (.there (.there (.there (.there (.there (.there (.there (.there (.here))))))))))))) (Enc.size_eq m)) ?_)
    refine WL.op rfl (opW.call (of_ok _ m keys ins (fun i => (ds).getD i []) (hld.bel hS.old) (hkeys.bel hS.old) (hins.bel hS.old) (by omega) (hds.bel hS.old).data) rfl ?_)
    rintro _ w ⟨rfl, hw⟩; replace hS := hS.bel hw
    rw [stF_eq]
    rw [show budR (stF keys ins (ds)) = budF keys ins (ds) from rfl]
    refine WL.op rfl (opW.allocA hS ?_)
    intro b5 w _ hS
    refine WL.op0 (opW.storeE hS rfl rfl (by first | exact .here | exact .there (.here) | exact .there (.there (.here)) | exact .there (.there (.there (.here))) | exact .there (.there (.there (.there (.here)))) | exact .there (.there (.there (.there (.there (.here))))) | exact .there (.there (.there (.there (.there (.there (.here)))))) | exact .there (.there (.there (.there (.there (.there (.there (.here))))))) | exact .there (.there (.there (.there (.there (.there (.there (.there (.here)))))))) | exact .there (.there (.there (.there (.there (.there (.there (.there (.there (.here))))))))) | exact .there (.there (.there (.there (.there (.there (.there (.there (.there (.there (.here)))))))))) | exact .there (.there (.there (.there (.there (.there (.there (.there (.there (.there (.there (.here))))))))))) | exact .there (.there (.there (.there (.there (.there (.there (.there (.there (.there (.there (.there (.here))))))))))))) (by first | rfl | exact Enc.size_eq _) ?_)
    intro w hS; replace hS := hS _ (by first | exact .here | exact .there (.here) | exact .there (.there (.here)) | exact .there (.there (.there (.here))) | exact .there (.there (.there (.there (.here)))) | exact .there (.there (.there (.there (.there (.here))))) | exact .there (.there (.there (.there (.there (.there (.here)))))) | exact .there (.there (.there (.there (.there (.there (.there (.here))))))) | exact .there (.there (.there (.there (.there (.there (.there (.there (.here)))))))) | exact .there (.there (.there (.there (.there (.there (.there (.there (.there (.here))))))))) | exact .there (.there (.there (.there (.there (.there (.there (.there (.there (.there (.here)))))))))) | exact .there (.there (.there (.there (.there (.there (.there (.there (.there (.there (.there (.here))))))))))) | exact .there (.there (.there (.there (.there (.there (.there (.there (.there (.there (.there (.there (.here)))))))))))))
    refine WL.nil ?_
    refine thenQ_n (hK5 _ _ ?_)
    refine WC.seq (fun K6 hK6 => ?_)
    refine WC.region ?_
    refine WL.op rfl (opW.loadV rfl (hS.ldA (cs := Enc.enc m) (by first | exact .here | exact .there (.here) | exact .there (.there (.here)) | exact .there (.there (.there (.here))) | exact .there (.there (.there (.there (.here)))) | exact .there (.there (.there (.there (.there (.here))))) | exact .there (.there (.there (.there (.there (.there (.here)))))) | exact .there (.there (.there (.there (.there (.there (.there (.here))))))) | exact .there (.there (.there (.there (.there (.there (.there (.there (.here)))))))) | exact .there (.there (.there (.there (.there (.there (.there (.there (.there (.here))))))))) | exact .there (.there (.there (.there (.there (.there (.there (.there (.there (.there (.here)))))))))) | exact .there (.there (.there (.there (.there (.there (.there (.there (.there (.there (.there (.here))))))))))) | exact .there (.there (.there (.there (.there (.there (.there (.there (.there (.there (.there (.there (.here))))))))))))) (Enc.size_eq m)) ?_)
    refine WL.op rfl (opW.allocA hS ?_)
    intro b6 w _ hS
    refine WL.op0 (opW.storeE hS rfl rfl (by first | exact .here | exact .there (.here) | exact .there (.there (.here)) | exact .there (.there (.there (.here))) | exact .there (.there (.there (.there (.here)))) | exact .there (.there (.there (.there (.there (.here))))) | exact .there (.there (.there (.there (.there (.there (.here)))))) | exact .there (.there (.there (.there (.there (.there (.there (.here))))))) | exact .there (.there (.there (.there (.there (.there (.there (.there (.here)))))))) | exact .there (.there (.there (.there (.there (.there (.there (.there (.there (.here))))))))) | exact .there (.there (.there (.there (.there (.there (.there (.there (.there (.there (.here)))))))))) | exact .there (.there (.there (.there (.there (.there (.there (.there (.there (.there (.there (.here))))))))))) | exact .there (.there (.there (.there (.there (.there (.there (.there (.there (.there (.there (.there (.here))))))))))))) (by first | rfl | exact Enc.size_eq _) ?_)
    intro w hS; replace hS := hS _ (by first | exact .here | exact .there (.here) | exact .there (.there (.here)) | exact .there (.there (.there (.here))) | exact .there (.there (.there (.there (.here)))) | exact .there (.there (.there (.there (.there (.here))))) | exact .there (.there (.there (.there (.there (.there (.here)))))) | exact .there (.there (.there (.there (.there (.there (.there (.here))))))) | exact .there (.there (.there (.there (.there (.there (.there (.there (.here)))))))) | exact .there (.there (.there (.there (.there (.there (.there (.there (.there (.here))))))))) | exact .there (.there (.there (.there (.there (.there (.there (.there (.there (.there (.here)))))))))) | exact .there (.there (.there (.there (.there (.there (.there (.there (.there (.there (.there (.here))))))))))) | exact .there (.there (.there (.there (.there (.there (.there (.there (.there (.there (.there (.there (.here)))))))))))))
    refine WL.nil ?_
    refine thenQ_n (hK6 _ _ ?_)
    refine WC.seq (fun K7 hK7 => ?_)
    refine WC.draw 7 (.look 0 (.look 1 (.look 3 (.pair 2 4 (.one 5 (.look 6 (.one 7 .nil))))))) (by kernel_rfl) (fun _ _ _ h => h) (fun w1 hw1 => ?_)
    replace hS := hS.bel hw1
    have hS1 := hS
    have hT := St.start w1
    refine ML.look rfl rfl rfl (fun w hw => (by have hS := hS1.bel hw; exact opW.fieldAddrB rfl ⟨rfl, rfl⟩)) ?_
    refine ML.look rfl rfl rfl (fun w hw => (by have hS := hS1.bel hw; exact opW.loadV rfl (hS.ld1 (by first | exact .here | exact .there (.here) | exact .there (.there (.here)) | exact .there (.there (.there (.here))) | exact .there (.there (.there (.there (.here)))) | exact .there (.there (.there (.there (.there (.here))))) | exact .there (.there (.there (.there (.there (.there (.here)))))) | exact .there (.there (.there (.there (.there (.there (.there (.here))))))) | exact .there (.there (.there (.there (.there (.there (.there (.there (.here)))))))) | exact .there (.there (.there (.there (.there (.there (.there (.there (.there (.here))))))))) | exact .there (.there (.there (.there (.there (.there (.there (.there (.there (.there (.here)))))))))) | exact .there (.there (.there (.there (.there (.there (.there (.there (.there (.there (.there (.here))))))))))) | exact .there (.there (.there (.there (.there (.there (.there (.there (.there (.there (.there (.there (.here))))))))))))) (Message.at_instrs m)) ⟨rfl, rfl⟩)) ?_
    refine ML.look rfl rfl rfl (fun w hw => (by have hS := hS1.bel hw; exact opW.loadV rfl (hS.ldA (cs := Enc.enc i) (by first | exact .here | exact .there (.here) | exact .there (.there (.here)) | exact .there (.there (.there (.here))) | exact .there (.there (.there (.there (.here)))) | exact .there (.there (.there (.there (.there (.here))))) | exact .there (.there (.there (.there (.there (.there (.here)))))) | exact .there (.there (.there (.there (.there (.there (.there (.here))))))) | exact .there (.there (.there (.there (.there (.there (.there (.there (.here)))))))) | exact .there (.there (.there (.there (.there (.there (.there (.there (.there (.here))))))))) | exact .there (.there (.there (.there (.there (.there (.there (.there (.there (.there (.here)))))))))) | exact .there (.there (.there (.there (.there (.there (.there (.there (.there (.there (.there (.here))))))))))) | exact .there (.there (.there (.there (.there (.there (.there (.there (.there (.there (.there (.there (.here))))))))))))) (Enc.size_eq i)) ⟨rfl, rfl⟩)) ?_
    refine ML.pairNew hT (fun v => ownE v 45 ins) (fun v => ownE v 45 [i]) rfl rfl rfl rfl rfl ?_ (fun v35 w _ hT => ?_) ?_ (fun v37 w _ hT => ?_) (fun v35 v37 w _ hT => ?_)
    · have hS := hS1.merge hT
      try simp only [List.cons_append, List.nil_append] at hS
      refine opW.appendNil (α := Instr) rfl hT rfl ((hins.bel hS.old)) (by omega) (by simp only [maxLen]; omega) ?_
      intro v35 w hw hT
      exact ⟨hT.old, hT⟩
    · have hS := hS1.merge hT
      try simp only [List.cons_append, List.nil_append] at hS
      refine opW.buildSl hT (([i] : List Instr)) [.agg (Enc.enc i)] rfl rfl rfl rfl (by decide) ?_
      intro b37 w hw hT
      exact ⟨hT.old, hT⟩
    · have hS := hS1.merge hT
      try simp only [List.cons_append, List.nil_append] at hS
      refine opW.buildSl hT (([i] : List Instr)) [.agg (Enc.enc i)] rfl rfl rfl rfl (by decide) ?_
      intro b37 w hw hT
      exact ⟨hT.old, hT⟩
    · have hS := hS1.merge hT
      try simp only [List.cons_append, List.nil_append] at hS
      refine opW.appendNil (α := Instr) rfl hT rfl ((hins.bel hS.old)) (by omega) (by simp only [maxLen]; omega) ?_
      intro v35 w hw hT
      exact ⟨hT.old, hT⟩
    have hS := hS1.merge hT
    try simp only [List.cons_append, List.nil_append] at hS
    refine ML.one rfl rfl rfl (opW.appendOwn (α := Instr) rfl hT rfl (by first | exact .here | exact .there (.here) | exact .there (.there (.here)) | exact .there (.there (.there (.here))) | exact .there (.there (.there (.there (.here)))) | exact .there (.there (.there (.there (.there (.here))))) | exact .there (.there (.there (.there (.there (.there (.here)))))) | exact .there (.there (.there (.there (.there (.there (.there (.here))))))) | exact .there (.there (.there (.there (.there (.there (.there (.there (.here)))))))) | exact .there (.there (.there (.there (.there (.there (.there (.there (.there (.here))))))))) | exact .there (.there (.there (.there (.there (.there (.there (.there (.there (.there (.here)))))))))) | exact .there (.there (.there (.there (.there (.there (.there (.there (.there (.there (.there (.here))))))))))) | exact .there (.there (.there (.there (.there (.there (.there (.there (.there (.there (.there (.there (.here))))))))))))) (hS.sl (by first | exact .here | exact .there (.here) | exact .there (.there (.here)) | exact .there (.there (.there (.here))) | exact .there (.there (.there (.there (.here)))) | exact .there (.there (.there (.there (.there (.here))))) | exact .there (.there (.there (.there (.there (.there (.here)))))) | exact .there (.there (.there (.there (.there (.there (.there (.here))))))) | exact .there (.there (.there (.there (.there (.there (.there (.there (.here)))))))) | exact .there (.there (.there (.there (.there (.there (.there (.there (.there (.here))))))))) | exact .there (.there (.there (.there (.there (.there (.there (.there (.there (.there (.here)))))))))) | exact .there (.there (.there (.there (.there (.there (.there (.there (.there (.there (.there (.here))))))))))) | exact .there (.there (.there (.there (.there (.there (.there (.there (.there (.there (.there (.there (.here)))))))))))))) (by simp only [List.length_cons, List.length_nil]; omega) (by simp only [maxLen, List.length_cons, List.length_nil]; omega) ?_)
    intro v38 w hT; replace hT := hT _ (by first | exact .here | exact .there (.here) | exact .there (.there (.here)) | exact .there (.there (.there (.here))) | exact .there (.there (.there (.there (.here)))) | exact .there (.there (.there (.there (.there (.here))))) | exact .there (.there (.there (.there (.there (.there (.here)))))) | exact .there (.there (.there (.there (.there (.there (.there (.here))))))) | exact .there (.there (.there (.there (.there (.there (.there (.there (.here)))))))) | exact .there (.there (.there (.there (.there (.there (.there (.there (.there (.here))))))))) | exact .there (.there (.there (.there (.there (.there (.there (.there (.there (.there (.here)))))))))) | exact .there (.there (.there (.there (.there (.there (.there (.there (.there (.there (.there (.here))))))))))) | exact .there (.there (.there (.there (.there (.there (.there (.there (.there (.there (.there (.there (.here)))))))))))))
    obtain ⟨s38, rfl⟩ := (hT.sl (v := v38) (xs := ins ++ [i]) (by first | exact .here | exact .there (.here) | exact .there (.there (.here)) | exact .there (.there (.there (.here))) | exact .there (.there (.there (.there (.here)))) | exact .there (.there (.there (.there (.there (.here))))) | exact .there (.there (.there (.there (.there (.there (.here)))))) | exact .there (.there (.there (.there (.there (.there (.there (.here))))))) | exact .there (.there (.there (.there (.there (.there (.there (.there (.here)))))))) | exact .there (.there (.there (.there (.there (.there (.there (.there (.there (.here))))))))) | exact .there (.there (.there (.there (.there (.there (.there (.there (.there (.there (.here)))))))))) | exact .there (.there (.there (.there (.there (.there (.there (.there (.there (.there (.there (.here))))))))))) | exact .there (.there (.there (.there (.there (.there (.there (.there (.there (.there (.there (.there (.here)))))))))))))).asV
    refine ⟨hT.old, ?_⟩
    have hS := hS1.merge hT
    try simp only [List.cons_append, List.nil_append] at hS
    refine ML.look rfl rfl rfl (fun w hw => (by have hS := hS1.bel hw; exact opW.fieldAddrB rfl ⟨rfl, rfl⟩)) ?_
    refine ML.put0 rfl rfl rfl (opW.storeF (v := s38.v) (sz := 1) (cs' := Enc.enc ({ m with instrs := s38 } : Message)) hS rfl rfl (by first | exact .here | exact .there (.here) | exact .there (.there (.here)) | exact .there (.there (.there (.here))) | exact .there (.there (.there (.there (.here)))) | exact .there (.there (.there (.there (.there (.here))))) | exact .there (.there (.there (.there (.there (.there (.here)))))) | exact .there (.there (.there (.there (.there (.there (.there (.here))))))) | exact .there (.there (.there (.there (.there (.there (.there (.there (.here)))))))) | exact .there (.there (.there (.there (.there (.there (.there (.there (.there (.here))))))))) | exact .there (.there (.there (.there (.there (.there (.there (.there (.there (.there (.here)))))))))) | exact .there (.there (.there (.there (.there (.there (.there (.there (.there (.there (.there (.here))))))))))) | exact .there (.there (.there (.there (.there (.there (.there (.there (.there (.there (.there (.there (.here))))))))))))) rfl (by rw [Enc.size_eq]; decide) (Enc.one s38) (Message.set_instrs m s38) ?_)
    intro w hS; replace hS := hS _ (by first | exact .here | exact .there (.here) | exact .there (.there (.here)) | exact .there (.there (.there (.here))) | exact .there (.there (.there (.there (.here)))) | exact .there (.there (.there (.there (.there (.here))))) | exact .there (.there (.there (.there (.there (.there (.here)))))) | exact .there (.there (.there (.there (.there (.there (.there (.here))))))) | exact .there (.there (.there (.there (.there (.there (.there (.there (.here)))))))) | exact .there (.there (.there (.there (.there (.there (.there (.there (.there (.here))))))))) | exact .there (.there (.there (.there (.there (.there (.there (.there (.there (.there (.here)))))))))) | exact .there (.there (.there (.there (.there (.there (.there (.there (.there (.there (.there (.here))))))))))) | exact .there (.there (.there (.there (.there (.there (.there (.there (.there (.there (.there (.there (.here)))))))))))))
    refine ML.nil ?_
    refine thenQ_n (hK7 _ _ ?_)
    refine WC.seq (fun K8 hK8 => ?_)
    refine WC.region ?_
    refine WL.op rfl (opW.loadV rfl (hS.ldA (cs := Enc.enc ({ m with instrs := s38 } : Message)) (by first | exact .here | exact .there (.here) | exact .there (.there (.here)) | exact .there (.there (.there (.here))) | exact .there (.there (.there (.there (.here)))) | exact .there (.there (.there (.there (.there (.here))))) | exact .there (.there (.there (.there (.there (.there (.here)))))) | exact .there (.there (.there (.there (.there (.there (.there (.here))))))) | exact .there (.there (.there (.there (.there (.there (.there (.there (.here)))))))) | exact .there (.there (.there (.there (.there (.there (.there (.there (.there (.here))))))))) | exact .there (.there (.there (.there (.there (.there (.there (.there (.there (.there (.here)))))))))) | exact .there (.there (.there (.there (.there (.there (.there (.there (.there (.there (.there (.here))))))))))) | exact .there (.there (.there (.there (.there (.there (.there (.there (.there (.there (.there (.there (.here))))))))))))) (Enc.size_eq _)) ?_)
    refine WL.op rfl (opW.call (of_ok _ ({ m with instrs := s38 } : Message) keys (ins ++ [i]) (fun i => (ds ++ [d]).getD i []) (hld.bel hS.old) (hkeys.bel hS.old) (hS.sl (v := s38.v) (xs := ins ++ [i]) (by first | exact .here | exact .there (.here) | exact .there (.there (.here)) | exact .there (.there (.there (.here))) | exact .there (.there (.there (.there (.here)))) | exact .there (.there (.there (.there (.there (.here))))) | exact .there (.there (.there (.there (.there (.there (.here)))))) | exact .there (.there (.there (.there (.there (.there (.there (.here))))))) | exact .there (.there (.there (.there (.there (.there (.there (.there (.here)))))))) | exact .there (.there (.there (.there (.there (.there (.there (.there (.there (.here))))))))) | exact .there (.there (.there (.there (.there (.there (.there (.there (.there (.there (.here)))))))))) | exact .there (.there (.there (.there (.there (.there (.there (.there (.there (.there (.there (.here))))))))))) | exact .there (.there (.there (.there (.there (.there (.there (.there (.there (.there (.there (.there (.here)))))))))))))) (by simp only [List.length_append, List.length_singleton]; omega) ((hds.bel hS.old).append (DIs.one (hd.bel hS.old))).data) rfl ?_)
    rintro _ w ⟨rfl, hw⟩; replace hS := hS.bel hw
    rw [stF_eq]
    rw [show budR (stF keys (ins ++ [i]) (ds ++ [d])) = budF keys (ins ++ [i]) (ds ++ [d]) from rfl]
    refine WL.op rfl (opW.allocA hS ?_)
    intro b7 w _ hS
    refine WL.op0 (opW.storeE hS rfl rfl (by first | exact .here | exact .there (.here) | exact .there (.there (.here)) | exact .there (.there (.there (.here))) | exact .there (.there (.there (.there (.here)))) | exact .there (.there (.there (.there (.there (.here))))) | exact .there (.there (.there (.there (.there (.there (.here)))))) | exact .there (.there (.there (.there (.there (.there (.there (.here))))))) | exact .there (.there (.there (.there (.there (.there (.there (.there (.here)))))))) | exact .there (.there (.there (.there (.there (.there (.there (.there (.there (.here))))))))) | exact .there (.there (.there (.there (.there (.there (.there (.there (.there (.there (.here)))))))))) | exact .there (.there (.there (.there (.there (.there (.there (.there (.there (.there (.there (.here))))))))))) | exact .there (.there (.there (.there (.there (.there (.there (.there (.there (.there (.there (.there (.here))))))))))))) (by first | rfl | exact Enc.size_eq _) ?_)
    intro w hS; replace hS := hS _ (by first | exact .here | exact .there (.here) | exact .there (.there (.here)) | exact .there (.there (.there (.here))) | exact .there (.there (.there (.there (.here)))) | exact .there (.there (.there (.there (.there (.here))))) | exact .there (.there (.there (.there (.there (.there (.here)))))) | exact .there (.there (.there (.there (.there (.there (.there (.here))))))) | exact .there (.there (.there (.there (.there (.there (.there (.there (.here)))))))) | exact .there (.there (.there (.there (.there (.there (.there (.there (.there (.here))))))))) | exact .there (.there (.there (.there (.there (.there (.there (.there (.there (.there (.here)))))))))) | exact .there (.there (.there (.there (.there (.there (.there (.there (.there (.there (.there (.here))))))))))) | exact .there (.there (.there (.there (.there (.there (.there (.there (.there (.there (.there (.there (.here)))))))))))))
    refine WL.nil ?_
    refine thenQ_n (hK8 _ _ ?_)
    refine WC.seq (fun K9 hK9 => ?_)
    refine WC.seq (fun K10 hK10 => ?_)
    refine WC.region ?_
    refine WL.op rfl (opW.fieldAddrB rfl ?_)
    refine WL.op rfl (opW.loadV rfl (hS.ld1 (by first | exact .here | exact .there (.here) | exact .there (.there (.here)) | exact .there (.there (.there (.here))) | exact .there (.there (.there (.there (.here)))) | exact .there (.there (.there (.there (.there (.here))))) | exact .there (.there (.there (.there (.there (.there (.here)))))) | exact .there (.there (.there (.there (.there (.there (.there (.here))))))) | exact .there (.there (.there (.there (.there (.there (.there (.there (.here)))))))) | exact .there (.there (.there (.there (.there (.there (.there (.there (.there (.here))))))))) | exact .there (.there (.there (.there (.there (.there (.there (.there (.there (.there (.here)))))))))) | exact .there (.there (.there (.there (.there (.there (.there (.there (.there (.there (.there (.here))))))))))) | exact .there (.there (.there (.there (.there (.there (.there (.there (.there (.there (.there (.there (.here))))))))))))) (Budget.at_price (budF keys (ins ++ [i]) (ds ++ [d])))) ?_)
    refine WL.op rfl (opW.fieldAddrB rfl ?_)
    refine WL.op rfl (opW.loadV rfl (hS.ld1 (by first | exact .here | exact .there (.here) | exact .there (.there (.here)) | exact .there (.there (.there (.here))) | exact .there (.there (.there (.there (.here)))) | exact .there (.there (.there (.there (.there (.here))))) | exact .there (.there (.there (.there (.there (.there (.here)))))) | exact .there (.there (.there (.there (.there (.there (.there (.here))))))) | exact .there (.there (.there (.there (.there (.there (.there (.there (.here)))))))) | exact .there (.there (.there (.there (.there (.there (.there (.there (.there (.here))))))))) | exact .there (.there (.there (.there (.there (.there (.there (.there (.there (.there (.here)))))))))) | exact .there (.there (.there (.there (.there (.there (.there (.there (.there (.there (.there (.here))))))))))) | exact .there (.there (.there (.there (.there (.there (.there (.there (.there (.there (.there (.there (.here))))))))))))) (Budget.at_price (budF keys ins (ds)))) ?_)
    refine WL.op rfl (opW.boolF (by rw [q1]; simp) (opW.neq rfl rfl ⟨rfl, rfl⟩) ?_)
    refine WL.op rfl (opW.moveB rfl ?_)
    refine WL.gT 47 rfl rfl rfl (WL.op rfl (opW.fieldAddrB rfl ?_))
    refine WL.gT 47 rfl rfl rfl (WL.op rfl (opW.loadV rfl (hS.ld1 (by first | exact .here | exact .there (.here) | exact .there (.there (.here)) | exact .there (.there (.there (.here))) | exact .there (.there (.there (.there (.here)))) | exact .there (.there (.there (.there (.there (.here))))) | exact .there (.there (.there (.there (.there (.there (.here)))))) | exact .there (.there (.there (.there (.there (.there (.there (.here))))))) | exact .there (.there (.there (.there (.there (.there (.there (.there (.here)))))))) | exact .there (.there (.there (.there (.there (.there (.there (.there (.there (.here))))))))) | exact .there (.there (.there (.there (.there (.there (.there (.there (.there (.there (.here)))))))))) | exact .there (.there (.there (.there (.there (.there (.there (.there (.there (.there (.there (.here))))))))))) | exact .there (.there (.there (.there (.there (.there (.there (.there (.there (.there (.there (.there (.here))))))))))))) (Budget.at_bad (budF keys (ins ++ [i]) (ds ++ [d])))) ?_))
    refine WL.gT 47 rfl rfl rfl (WL.op rfl (opW.fieldAddrB rfl ?_))
    refine WL.gT 47 rfl rfl rfl (WL.op rfl (opW.loadV rfl (hS.ld1 (by first | exact .here | exact .there (.here) | exact .there (.there (.here)) | exact .there (.there (.there (.here))) | exact .there (.there (.there (.there (.here)))) | exact .there (.there (.there (.there (.there (.here))))) | exact .there (.there (.there (.there (.there (.there (.here)))))) | exact .there (.there (.there (.there (.there (.there (.there (.here))))))) | exact .there (.there (.there (.there (.there (.there (.there (.there (.here)))))))) | exact .there (.there (.there (.there (.there (.there (.there (.there (.there (.here))))))))) | exact .there (.there (.there (.there (.there (.there (.there (.there (.there (.there (.here)))))))))) | exact .there (.there (.there (.there (.there (.there (.there (.there (.there (.there (.there (.here))))))))))) | exact .there (.there (.there (.there (.there (.there (.there (.there (.there (.there (.there (.there (.here))))))))))))) (Budget.at_bad (budF keys ins (ds)))) ?_))
    refine WL.gT 47 rfl rfl rfl (WL.op rfl (opW.boolF (by rw [q2]; simp) (opW.neq rfl rfl ⟨rfl, rfl⟩) ?_))
    refine WL.op rfl (opW.pickT rfl rfl ?_)
    refine WL.nil ?_
    refine thenQ_n (hK10 _ _ ?_)
    refine WC.cond _ rfl (fun hc1 => ?_) (fun hc1 => ?_)
    ·
      have hr1 := hc1
      try simp only [decide_eq_true_eq, decide_eq_false_iff_not, Bool.and_eq_true, Bool.or_eq_true, Bool.and_eq_false_iff, Bool.or_eq_false_iff, Bool.not_eq_true', Bool.not_eq_false', Int.not_lt, Int.not_le] at hc1
      simp at hr1
    ·
      have hr1 := hc1
      try simp only [decide_eq_true_eq, decide_eq_false_iff_not, Bool.and_eq_true, Bool.or_eq_true, Bool.and_eq_false_iff, Bool.or_eq_false_iff, Bool.not_eq_true', Bool.not_eq_false', Int.not_lt, Int.not_le] at hc1
      refine WC.skip ?_
      refine thenQ_n (hK9 _ _ ?_)
      refine WC.seq (fun K11 hK11 => ?_)
      refine WC.region ?_
      refine WL.op rfl (opW.fieldAddrB rfl ?_)
      refine WL.op rfl (opW.loadV rfl (hS.ld1 (by first | exact .here | exact .there (.here) | exact .there (.there (.here)) | exact .there (.there (.there (.here))) | exact .there (.there (.there (.there (.here)))) | exact .there (.there (.there (.there (.there (.here))))) | exact .there (.there (.there (.there (.there (.there (.here)))))) | exact .there (.there (.there (.there (.there (.there (.there (.here))))))) | exact .there (.there (.there (.there (.there (.there (.there (.there (.here)))))))) | exact .there (.there (.there (.there (.there (.there (.there (.there (.there (.here))))))))) | exact .there (.there (.there (.there (.there (.there (.there (.there (.there (.there (.here)))))))))) | exact .there (.there (.there (.there (.there (.there (.there (.there (.there (.there (.there (.here))))))))))) | exact .there (.there (.there (.there (.there (.there (.there (.there (.there (.there (.there (.there (.here))))))))))))) (Budget.at_units (budF keys (ins ++ [i]) (ds ++ [d])))) ?_)
      refine WL.op rfl (opW.fieldAddrB rfl ?_)
      refine WL.op rfl (opW.loadV rfl (hS.ld1 (by first | exact .here | exact .there (.here) | exact .there (.there (.here)) | exact .there (.there (.there (.here))) | exact .there (.there (.there (.there (.here)))) | exact .there (.there (.there (.there (.there (.here))))) | exact .there (.there (.there (.there (.there (.there (.here)))))) | exact .there (.there (.there (.there (.there (.there (.there (.here))))))) | exact .there (.there (.there (.there (.there (.there (.there (.there (.here)))))))) | exact .there (.there (.there (.there (.there (.there (.there (.there (.there (.here))))))))) | exact .there (.there (.there (.there (.there (.there (.there (.there (.there (.there (.here)))))))))) | exact .there (.there (.there (.there (.there (.there (.there (.there (.there (.there (.there (.here))))))))))) | exact .there (.there (.there (.there (.there (.there (.there (.there (.there (.there (.there (.there (.here))))))))))))) (Budget.at_units (budF keys ins (ds)))) ?_)
      refine WL.op rfl (opW.eql rfl rfl ?_)
      refine WL.op rfl (opW.moveB rfl ?_)
      cases hcs59 : (decide (((budF keys (ins ++ [i]) (ds ++ [d])).units : Int) = ((budF keys ins (ds)).units : Int))) with
      | true =>
        refine WL.gF 59 rfl rfl rfl rfl ?_
        refine WL.gF 59 rfl rfl rfl rfl ?_
        refine WL.gF 59 rfl rfl rfl rfl ?_
        refine WL.gF 59 rfl rfl rfl rfl ?_
        refine WL.gF 59 rfl rfl rfl rfl ?_
        refine WL.gF 59 rfl rfl rfl rfl ?_
        refine WL.gF 59 rfl rfl rfl rfl ?_
        refine WL.op rfl (opW.pickT rfl rfl ?_)
        refine WL.op rfl (opW.moveB rfl ?_)
        refine WL.gT 68 rfl rfl rfl (WL.op rfl (opW.call (lives8 _ (hld.bel hS.old)) rfl ?_))
        rintro _ w ⟨rfl, hw⟩; replace hS := hS.bel hw
        refine WL.op rfl (opW.pickT rfl rfl ?_)
        refine WL.op rfl (opW.assignB rfl ?_)
        refine WL.nil ?_
        refine thenQ_n (hK11 _ _ ?_)
        refine WC.ret ?_
        refine bodyQ_ret (.tmpB rfl .nil) ?_
        exact ⟨rfl, hS.old⟩
      | false =>
        refine WL.gT 59 rfl rfl rfl (WL.op rfl (opW.fieldAddrB rfl ?_))
        refine WL.gT 59 rfl rfl rfl (WL.op rfl (opW.loadV rfl (hS.ld1 (by first | exact .here | exact .there (.here) | exact .there (.there (.here)) | exact .there (.there (.there (.here))) | exact .there (.there (.there (.there (.here)))) | exact .there (.there (.there (.there (.there (.here))))) | exact .there (.there (.there (.there (.there (.there (.here)))))) | exact .there (.there (.there (.there (.there (.there (.there (.here))))))) | exact .there (.there (.there (.there (.there (.there (.there (.there (.here)))))))) | exact .there (.there (.there (.there (.there (.there (.there (.there (.there (.here))))))))) | exact .there (.there (.there (.there (.there (.there (.there (.there (.there (.there (.here)))))))))) | exact .there (.there (.there (.there (.there (.there (.there (.there (.there (.there (.there (.here))))))))))) | exact .there (.there (.there (.there (.there (.there (.there (.there (.there (.there (.there (.there (.here))))))))))))) (Budget.at_units (budF keys (ins ++ [i]) (ds ++ [d])))) ?_))
        refine WL.gT 59 rfl rfl rfl (WL.op rfl (opW.fieldAddrB rfl ?_))
        refine WL.gT 59 rfl rfl rfl (WL.op rfl (opW.loadV rfl (hS.ld1 (by first | exact .here | exact .there (.here) | exact .there (.there (.here)) | exact .there (.there (.there (.here))) | exact .there (.there (.there (.there (.here)))) | exact .there (.there (.there (.there (.there (.here))))) | exact .there (.there (.there (.there (.there (.there (.here)))))) | exact .there (.there (.there (.there (.there (.there (.there (.here))))))) | exact .there (.there (.there (.there (.there (.there (.there (.there (.here)))))))) | exact .there (.there (.there (.there (.there (.there (.there (.there (.there (.here))))))))) | exact .there (.there (.there (.there (.there (.there (.there (.there (.there (.there (.here)))))))))) | exact .there (.there (.there (.there (.there (.there (.there (.there (.there (.there (.there (.here))))))))))) | exact .there (.there (.there (.there (.there (.there (.there (.there (.there (.there (.there (.there (.here))))))))))))) (Budget.at_units (budF keys ins (ds)))) ?_))
        refine WL.gT 59 rfl rfl rfl (WL.op rfl (opW.add rfl rfl (nadd (b := 200000) (by omega)) ?_))
        refine WL.gT 59 rfl rfl rfl (WL.op rfl (opW.minI rfl rfl (minN2 1400000 ((budF keys ins (ds)).units + 200000)) ?_))
        refine WL.gT 59 rfl rfl rfl (WL.op rfl (opW.boolT (q3.elim (fun h => absurd (congrArg (fun n : Nat => (n : Int)) h) (of_decide_eq_false hcs59)) (fun h => by rw [h]; simp)) (opW.eql rfl rfl ⟨rfl, rfl⟩) ?_))
        refine WL.op rfl (opW.pickT rfl rfl ?_)
        refine WL.op rfl (opW.moveB rfl ?_)
        refine WL.gT 68 rfl rfl rfl (WL.op rfl (opW.call (lives8 _ (hld.bel hS.old)) rfl ?_))
        rintro _ w ⟨rfl, hw⟩; replace hS := hS.bel hw
        refine WL.op rfl (opW.pickT rfl rfl ?_)
        refine WL.op rfl (opW.assignB rfl ?_)
        refine WL.nil ?_
        refine thenQ_n (hK11 _ _ ?_)
        refine WC.ret ?_
        refine bodyQ_ret (.tmpB rfl .nil) ?_
        exact ⟨rfl, hS.old⟩

end Go.Fer
