/- SystemsMake -/
import Derived.Test.YtcjhdnedbkmgaaaS
set_option linter.all false
namespace Go.Fer
open Go Go.Proofs Go.RowKit

def mkD (c s : Nat) (o : Key) : List UInt8 := leB 0 4 ++ leB c 8 ++ leB s 8 ++ o.toList
theorem mkD_len (c s : Nat) (o : Key) : (mkD c s o).length = 52 := by simp [mkD, leB_len]
theorem vecOf_toList (o : Key) : vecOf 32 o.toList = o := by
  unfold vecOf
  rw [dif_pos (by simp)]
  simp [Vector.toList]
def mkX (c s : Nat) (o : Key) : Ask := ⟨0, c, s, o⟩
theorem askF_mk {c s : Nat} {o : Key} (hc : c < 18446744073709551616) (hs : s < 18446744073709551616) : askF (mkD c s o) = some (mkX c s o) := by
  have l4 : (leB 0 4).length = 4 := leB_len _ _
  have l8 : (leB c 8).length = 8 := leB_len _ _
  have l8' : (leB s 8).length = 8 := leB_len _ _
  have e : mkD c s o = leB 0 4 ++ (leB c 8 ++ (leB s 8 ++ o.toList)) := by simp [mkD]
  have h1 : (mkD c s o).take 4 = leB 0 4 := by rw [e, List.take_append_of_le_length (by omega), List.take_of_length_le (by omega)]
  have h2 : (mkD c s o).drop 4 = leB c 8 ++ (leB s 8 ++ o.toList) := by rw [e, List.drop_append_of_le_length (by omega), List.drop_of_length_le (by omega)]; rfl
  have h3 : (leB c 8 ++ (leB s 8 ++ o.toList)).take 8 = leB c 8 := by rw [List.take_append_of_le_length (by omega), List.take_of_length_le (by omega)]
  have h4 : (leB c 8 ++ (leB s 8 ++ o.toList)).drop 8 = leB s 8 ++ o.toList := by rw [List.drop_append_of_le_length (by omega), List.drop_of_length_le (by omega)]; rfl
  have h5 : (leB s 8 ++ o.toList).take 8 = leB s 8 := by rw [List.take_append_of_le_length (by omega), List.take_of_length_le (by omega)]
  have h6 : (leB c 8 ++ (leB s 8 ++ o.toList)).drop 16 = o.toList := by
    rw [show 16 = 8 + 8 from rfl, ← List.drop_drop, h4, List.drop_append_of_le_length (by omega), List.drop_of_length_le (by omega)]; rfl
  rw [askF0 (by rw [mkD_len]; decide) (by rw [h1, leN_leB]) (by rw [h2]; simp [leB_len]), h2, h3, h4, h5, h6, vecOf_toList, leN_leB, leN_leB, Nat.mod_eq_of_lt (by simpa using hc), Nat.mod_eq_of_lt (by simpa using hs)]
  rfl
theorem takb01 : takF 0 bothL [0, 1] = 0 := by simp [takF, need, lacks, bothL, roleErrs, roleErr]
theorem takb1 : takF 8 bothL [1] = 0 := by simp [takF, need, lacks, bothL, roleErrs, roleErr]
theorem do_mk (f t : Account) {c s : Nat} {o : Key} (hc : c < 18446744073709551616) (hs : s < 18446744073709551616) : doF [f, t] bothL [0, 1] (mkD c s o) = (mkE (mkX c s o) f t, (if mkE (mkX c s o) f t ≠ 0 then 0 else s), mvRes (mkE (mkX c s o) f t) [{ f with coins := f.coins - c }, ⟨c, o, s⟩]) := by
  rw [doF_x rfl (askF_mk hc hs)]
  unfold doX
  rw [if_neg (fun e => e takb01)]
  show (if actE (mkX c s o) f t false ≠ 0 then (actE (mkX c s o) f t false, 0, []) else (0, s, actL (mkX c s o) [f, t] 0 1 f t)) = _
  rw [actE0 rfl, actL0 rfl]
  unfold mvRes mkL
  by_cases he : mkE (mkX c s o) f t = 0
  · have hn : ¬ (mkE (mkX c s o) f t ≠ 0) := fun e => e he
    rw [if_neg hn, if_neg hn, if_neg hn, he]; rfl
  · rw [if_pos he, if_pos he, if_pos he]
def gvD : List UInt8 := leB 8 4 ++ leB 5 8
theorem askF_gv : askF gvD = some ⟨8, 0, 5, vz 32⟩ := by
  have h1 : gvD.take 4 = leB 8 4 := by unfold gvD; rw [List.take_append_of_le_length (by rw [leB_len]; exact Nat.le_refl _), List.take_of_length_le (by rw [leB_len]; exact Nat.le_refl _)]
  have h2 : gvD.drop 4 = leB 5 8 := by unfold gvD; rw [List.drop_append_of_le_length (by rw [leB_len]; exact Nat.le_refl _), List.drop_of_length_le (by rw [leB_len]; exact Nat.le_refl _)]; rfl
  have h3 : (leB 5 8).take 8 = leB 5 8 := List.take_of_length_le (by rw [leB_len]; exact Nat.le_refl _)
  rw [askF8 (by unfold gvD; simp [leB_len]) (by rw [h1, leN_leB]) (by rw [h2, leB_len]), h2, h3, leN_leB]
theorem do_gv (f t : Account) : doF [f, t] bothL [1] gvD = ((if plainB t = true then 0 else 12), (if plainB t = true then 5 else 0), if plainB t = true then [f, { t with space := 5 }] else []) := by
  rw [doF_x rfl askF_gv]
  unfold doX
  rw [if_neg (fun e => e takb1)]
  show (if actE (⟨8, 0, 5, vz 32⟩ : Ask) t t true ≠ 0 then (actE (⟨8, 0, 5, vz 32⟩ : Ask) t t true, 0, []) else (0, 5, actL (⟨8, 0, 5, vz 32⟩ : Ask) [f, t] 1 1 t t)) = _
  rw [actE8 rfl, actL8 rfl]
  unfold alE
  cases plainB t with
  | true => rfl
  | false => rfl
theorem mkE_az {f : Account} {c s : Nat} {o : Key} : mkE (mkX c s o) f az = 0 ↔ ((plainB f = true ∧ s ≤ 1048576) ∧ c ≤ f.coins) := by
  constructor
  · intro h
    obtain ⟨_, h2, h3, h4, h5⟩ := mkE_ok h
    refine ⟨⟨?_, h4⟩, h5⟩
    unfold plainB
    rw [decide_eq_true h2, decide_eq_true (by omega)]; rfl
  · rintro ⟨⟨h1, h2⟩, h3⟩
    unfold mkE
    rw [if_neg (by simp), if_neg (by rw [h1]; decide), if_neg (by simp only [mkX]; omega), if_neg (by simp only [mkX]; omega)]
theorem mkE_there {f t : Account} {x : Ask} (h : t ≠ az) : mkE x f t = 12 := by
  unfold mkE; rw [if_pos (by simpa using h)]

set_option maxRecDepth 20000 in
set_option maxHeartbeats 4000000 in
theorem make_law (w0 : World) (pa : Account) (z : Vector U64 2) (ow : Key) (hpw : okW pa) (hc : z[0].n < 18446744073709551616) (hs : z[1].n < 18446744073709551616) : Ret Try.prog 6 #[.agg (Enc.enc pa), .agg (Enc.enc z), .agg (Enc.enc ow)] w0 (fun r w' => r = .bool true ∧ Bel w0 w') := by
  refine Ret.enter (args := [.agg (Enc.enc pa), .agg (Enc.enc z), .agg (Enc.enc ow)]) Try.func6 rfl Try.ntmps6 Try.results6 rfl ?_
  have hS := St.start w0
  have hw2 : ∀ y ∈ ([pa, az] : List Account), okW y := by
    intro y hy
    simp only [List.mem_cons, List.not_mem_nil, or_false] at hy
    rcases hy with rfl | rfl
    · exact hpw
    · exact ⟨by decide, by decide⟩
  have hbl : bothL.length = 2 := rfl
  refine WC.seq (fun K1 hK1 => ?_)
  refine WC.region ?_
  refine WL.op rfl (opW.boxA hS rfl ?_)
  intro b3 w _ hS
  refine WL.op rfl (opW.boxA hS rfl ?_)
  intro b4 w _ hS
  refine WL.op rfl (opW.boxA hS rfl ?_)
  intro b5 w _ hS
  refine WL.op rfl (opW.assignB rfl ?_)
  refine WL.nil ?_
  refine thenQ_n (hK1 _ _ ?_)
  refine WC.seq (fun K2 hK2 => ?_)
  refine WC.region ?_
  refine WL.op rfl (opW.idxArr rfl rfl ⟨by decide, by decide⟩ ?_)
  refine WL.op rfl (opW.loadV rfl (hS.ld1 (by first | exact .h0 | exact .h1 | exact .h2 | exact .h3 | exact .h4 | exact .h5 | exact .h6 | exact .h7 | exact .h8 | exact .h9 | exact .h10 | exact .h11 | exact .h12 | exact .h13 | exact .h14) (at_vec64 z 0 (by decide))) ?_)
  refine WL.op rfl (opW.assignI rfl ?_)
  refine WL.nil ?_
  refine thenQ_n (hK2 _ _ ?_)
  refine WC.seq (fun K3 hK3 => ?_)
  refine WC.region ?_
  refine WL.op rfl (opW.idxArr rfl rfl ⟨by decide, by decide⟩ ?_)
  refine WL.op rfl (opW.loadV rfl (hS.ld1 (by first | exact .h0 | exact .h1 | exact .h2 | exact .h3 | exact .h4 | exact .h5 | exact .h6 | exact .h7 | exact .h8 | exact .h9 | exact .h10 | exact .h11 | exact .h12 | exact .h13 | exact .h14) (at_vec64 z 1 (by decide))) ?_)
  refine WL.op rfl (opW.assignI rfl ?_)
  refine WL.nil ?_
  refine thenQ_n (hK3 _ _ ?_)
  refine WC.seq (fun K4 hK4 => ?_)
  refine WC.draw 10 (.look 1 (.look 4 (.look 7 (.one 0 (.one 2 (.one 3 (.one 5 (.one 6 (.one 8 (.look 9 .nil)))))))))) (by kernel_rfl) (fun _ _ _ h => h) (fun w1 hw1 => ?_)
  replace hS := hS.bel hw1
  have hS1 := hS
  have hT := St.start w1
  have how : SlR w1 (.slice (some ⟨b5, 0, none⟩) 32 32) ow.toList := by
    have h := SlR.arr (hS1.blk (b := b5) (cs := Enc.enc ow) (by first | exact .h0 | exact .h1 | exact .h2 | exact .h3 | exact .h4 | exact .h5 | exact .h6 | exact .h7 | exact .h8 | exact .h9 | exact .h10 | exact .h11 | exact .h12 | exact .h13 | exact .h14)) (Nat.le_refl 32) (by decide)
    rw [List.take_of_length_le (by simp)] at h; exact h
  refine ML.look rfl rfl rfl (fun w hw => (by have hS := hS1.bel hw; exact opW.moveI rfl ⟨rfl, rfl⟩)) ?_
  refine ML.look rfl rfl rfl (fun w hw => (by have hS := hS1.bel hw; exact opW.moveI rfl ⟨rfl, rfl⟩)) ?_
  refine ML.look rfl rfl rfl (fun w hw => (by have hS := hS1.bel hw; exact opW.cutArr (h' := 32) rfl ⟨rfl, Nat.le_refl _⟩ ⟨rfl, rfl⟩)) ?_
  refine ML.one rfl rfl rfl (opW.call (number14 _ 0 4 (by decide) (by decide)) rfl ?_)
  rintro v28 w ⟨hn28, hw⟩; replace hT := hT.newOwn hw hn28.1 hn28.2
  refine ⟨hT.old, ?_⟩
  have hS := hS1.merge hT
  try simp only [List.cons_append, List.nil_append] at hS
  refine ML.one rfl rfl rfl (opW.call (number14 _ z[0].n 8 hc (by decide)) rfl ?_)
  rintro v30 w ⟨hn30, hw⟩; replace hT := hT.newOwn hw hn30.1 hn30.2
  refine ⟨hT.old, ?_⟩
  have hS := hS1.merge hT
  try simp only [List.cons_append, List.nil_append] at hS
  refine ML.one rfl rfl rfl (opW.appendOwn (α := UInt8) (v := v28) (xs := leB 0 4) rfl hT rfl (by first | exact .h0 | exact .h1 | exact .h2 | exact .h3 | exact .h4 | exact .h5 | exact .h6 | exact .h7 | exact .h8 | exact .h9 | exact .h10 | exact .h11 | exact .h12 | exact .h13 | exact .h14) (hS.sl (v := v30) (xs := leB (z[0].n) 8) (by first | exact .h0 | exact .h1 | exact .h2 | exact .h3 | exact .h4 | exact .h5 | exact .h6 | exact .h7 | exact .h8 | exact .h9 | exact .h10 | exact .h11 | exact .h12 | exact .h13 | exact .h14)) (by simp only [leB_len, List.length_append, Vector.length_toList]; omega) (by simp only [maxLen, leB_len, List.length_append, Vector.length_toList]; omega) ?_)
  intro v31 w hT; replace hT := hT _ (by first | exact .h0 | exact .h1 | exact .h2 | exact .h3 | exact .h4 | exact .h5 | exact .h6 | exact .h7 | exact .h8 | exact .h9 | exact .h10 | exact .h11 | exact .h12 | exact .h13 | exact .h14)
  refine ⟨hT.old, ?_⟩
  have hS := hS1.merge hT
  try simp only [List.cons_append, List.nil_append] at hS
  refine ML.one rfl rfl rfl (opW.call (number14 _ z[1].n 8 hs (by decide)) rfl ?_)
  rintro v33 w ⟨hn33, hw⟩; replace hT := hT.newOwn hw hn33.1 hn33.2
  refine ⟨hT.old, ?_⟩
  have hS := hS1.merge hT
  try simp only [List.cons_append, List.nil_append] at hS
  refine ML.one rfl rfl rfl (opW.appendOwn (α := UInt8) (v := v31) (xs := leB 0 4 ++ leB (z[0].n) 8) rfl hT rfl (by first | exact .h0 | exact .h1 | exact .h2 | exact .h3 | exact .h4 | exact .h5 | exact .h6 | exact .h7 | exact .h8 | exact .h9 | exact .h10 | exact .h11 | exact .h12 | exact .h13 | exact .h14) (hS.sl (v := v33) (xs := leB (z[1].n) 8) (by first | exact .h0 | exact .h1 | exact .h2 | exact .h3 | exact .h4 | exact .h5 | exact .h6 | exact .h7 | exact .h8 | exact .h9 | exact .h10 | exact .h11 | exact .h12 | exact .h13 | exact .h14)) (by simp only [leB_len, List.length_append, Vector.length_toList]; omega) (by simp only [maxLen, leB_len, List.length_append, Vector.length_toList]; omega) ?_)
  intro v34 w hT; replace hT := hT _ (by first | exact .h0 | exact .h1 | exact .h2 | exact .h3 | exact .h4 | exact .h5 | exact .h6 | exact .h7 | exact .h8 | exact .h9 | exact .h10 | exact .h11 | exact .h12 | exact .h13 | exact .h14)
  refine ⟨hT.old, ?_⟩
  have hS := hS1.merge hT
  try simp only [List.cons_append, List.nil_append] at hS
  refine ML.one rfl rfl rfl (opW.appendOwn (α := UInt8) (v := v34) (xs := leB 0 4 ++ leB (z[0].n) 8 ++ leB (z[1].n) 8) rfl hT rfl (by first | exact .h0 | exact .h1 | exact .h2 | exact .h3 | exact .h4 | exact .h5 | exact .h6 | exact .h7 | exact .h8 | exact .h9 | exact .h10 | exact .h11 | exact .h12 | exact .h13 | exact .h14) ((how.bel hT.old)) (by simp only [leB_len, List.length_append, Vector.length_toList]; omega) (by simp only [maxLen, leB_len, List.length_append, Vector.length_toList]; omega) ?_)
  intro v36 w hT; replace hT := hT _ (by first | exact .h0 | exact .h1 | exact .h2 | exact .h3 | exact .h4 | exact .h5 | exact .h6 | exact .h7 | exact .h8 | exact .h9 | exact .h10 | exact .h11 | exact .h12 | exact .h13 | exact .h14)
  refine ⟨hT.old, ?_⟩
  have hS := hS1.merge hT
  try simp only [List.cons_append, List.nil_append] at hS
  refine ML.look rfl rfl rfl (fun w hw => (by have hS := hS1.bel hw; exact opW.assignV (v := v36) rfl ⟨rfl, rfl⟩)) ?_
  refine ML.nil ?_
  obtain ⟨sd, rfl⟩ := (hS.sl (v := v36) (xs := (mkD z[0].n z[1].n ow)) (by first | exact .h0 | exact .h1 | exact .h2 | exact .h3 | exact .h4 | exact .h5 | exact .h6 | exact .h7 | exact .h8 | exact .h9 | exact .h10 | exact .h11 | exact .h12 | exact .h13 | exact .h14)).asV
  replace hS : St w0 [ownE sd.v 5 (mkD z[0].n z[1].n ow), blkE b5 (Enc.enc ow) 46, blkE b4 (Enc.enc z) 54, blkE b3 (Enc.enc pa) 48] _ := (hS.pick (e := ownE sd.v 5 (mkD z[0].n z[1].n ow)) (by first | exact .h0 | exact .h1 | exact .h2 | exact .h3 | exact .h4 | exact .h5 | exact .h6 | exact .h7 | exact .h8 | exact .h9 | exact .h10 | exact .h11 | exact .h12 | exact .h13 | exact .h14)).sub (by repeat (first | with_reducible exact List.nil_sublist _ | with_reducible exact List.Sublist.refl _ | with_reducible refine List.Sublist.cons₂ _ ?_ | with_reducible refine List.Sublist.cons _ ?_))
  refine thenQ_n (hK4 _ _ ?_)
  refine WC.seq (fun K5 hK5 => ?_)
  refine WC.region ?_
  refine WL.op rfl (opW.buildSl hS (([0, 1] : List UInt8)) [.int .u8 0, .int .u8 1] rfl rfl rfl rfl (by decide) ?_)
  intro b37 w hw hS
  refine WL.op rfl (opW.moveV (v := sd.v) rfl ?_)
  refine WL.op rfl (opW.buildE (r := ((⟨1, ⟨some ⟨b37, 0, none⟩, 2, 2⟩, sd⟩ : Instr) : Instr)) (ps := Instr.parts ((⟨1, ⟨some ⟨b37, 0, none⟩, 2, 2⟩, sd⟩ : Instr) : Instr)) (Instr.enc_eq _) (by first | rfl | (simp only [sysK, az, kk, enc_vset, enc_vz, Account.enc_eq, Account.parts, Role.enc_eq, Role.parts, Instr.enc_eq, Instr.parts, Ask.enc_eq, Ask.parts, Cut.enc_eq, Cut.parts, PairS.enc_eq, PairS.parts, RAsk.enc_eq, RAsk.parts, LAsk.enc_eq, LAsk.parts]; rfl)) (by (repeat' (first | exact trivial | refine And.intro ?_ ?_)) <;> first | rfl | exact Enc.size_eq _ | (simp; done)) ?_)
  refine WL.op rfl (opW.allocA hS ?_)
  intro b10 w _ hS
  refine WL.op0 (opW.storeE hS rfl rfl (by first | exact .h0 | exact .h1 | exact .h2 | exact .h3 | exact .h4 | exact .h5 | exact .h6 | exact .h7 | exact .h8 | exact .h9 | exact .h10 | exact .h11 | exact .h12 | exact .h13 | exact .h14) (by first | rfl | exact Enc.size_eq _) ?_)
  intro w hS; replace hS := hS _ (by first | exact .h0 | exact .h1 | exact .h2 | exact .h3 | exact .h4 | exact .h5 | exact .h6 | exact .h7 | exact .h8 | exact .h9 | exact .h10 | exact .h11 | exact .h12 | exact .h13 | exact .h14)
  replace hS : St w0 [blkE b10 (Enc.enc (⟨1, ⟨some ⟨b37, 0, none⟩, 2, 2⟩, sd⟩ : Instr)) 26, ownE (.slice (some ⟨b37, 0, none⟩) 2 2) 5 ([0, 1] : List UInt8), ownE sd.v 5 (mkD z[0].n z[1].n ow), blkE b5 (Enc.enc ow) 46, blkE b4 (Enc.enc z) 54, blkE b3 (Enc.enc pa) 48] _ := hS
  refine WL.nil ?_
  refine thenQ_n (hK5 _ _ ?_)
  refine WC.seq (fun K6 hK6 => ?_)
  refine WC.draw 13 (.look 0 (.look 1 (.look 4 (.pair 2 3 (.one 5 (.look 6 (.look 7 (.look 8 (.look 9 (.look 10 (.look 11 (.look 12 .nil)))))))))))) (by kernel_rfl) (fun _ _ _ h => h) (fun w1 hw1 => ?_)
  replace hS := hS.bel hw1
  have hS1 := hS
  have hT := St.start w1
  refine ML.look rfl rfl rfl (fun w hw => (by have hS := hS1.bel hw; exact opW.loadV rfl (hS.ldA (cs := Enc.enc pa) (by first | exact .h0 | exact .h1 | exact .h2 | exact .h3 | exact .h4 | exact .h5 | exact .h6 | exact .h7 | exact .h8 | exact .h9 | exact .h10 | exact .h11 | exact .h12 | exact .h13 | exact .h14) (Enc.size_eq _)) ⟨rfl, rfl⟩)) ?_
  refine ML.look rfl rfl rfl (fun w hw => (by have hS := hS1.bel hw; exact opW.buildE (r := ((az : Account) : Account)) (ps := Account.parts ((az : Account) : Account)) (Account.enc_eq _) (by first | (simp only [sysK, az, kk, enc_vset, enc_vz, Account.enc_eq, Account.parts, Role.enc_eq, Role.parts, Instr.enc_eq, Instr.parts, Ask.enc_eq, Ask.parts, Cut.enc_eq, Cut.parts, PairS.enc_eq, PairS.parts, RAsk.enc_eq, RAsk.parts, LAsk.enc_eq, LAsk.parts]; rfl) | rfl) (by (repeat' (first | exact trivial | refine And.intro ?_ ?_)) <;> first | rfl | exact Enc.size_eq _ | (simp; done)) ⟨rfl, rfl⟩)) ?_
  refine ML.look rfl rfl rfl (fun w hw => (by have hS := hS1.bel hw; exact opW.loadV rfl (hS.ldA (cs := Enc.enc (⟨1, ⟨some ⟨b37, 0, none⟩, 2, 2⟩, sd⟩ : Instr)) (by first | exact .h0 | exact .h1 | exact .h2 | exact .h3 | exact .h4 | exact .h5 | exact .h6 | exact .h7 | exact .h8 | exact .h9 | exact .h10 | exact .h11 | exact .h12 | exact .h13 | exact .h14) (Enc.size_eq _)) ⟨rfl, rfl⟩)) ?_
  refine ML.pairNew hT (fun v => ownE v 48 ([pa, az] : List Account)) (fun v => ownE v 50 bothL) rfl rfl rfl rfl rfl ?_ (fun v43 w _ hT => ?_) ?_ (fun v44 w _ hT => ?_) (fun v43 v44 w _ hT => ?_)
  · have hS := hS1.merge hT
    try simp only [List.cons_append, List.nil_append] at hS
    refine opW.buildSl hT (([pa, az] : List Account)) [.agg (Enc.enc pa), .agg (Enc.enc az)] rfl rfl rfl rfl (by decide) ?_
    intro b43 w hw hT
    exact ⟨hT.old, hT⟩
  · have hS := hS1.merge hT
    try simp only [List.cons_append, List.nil_append] at hS
    refine opW.call (both14 _) rfl ?_
    rintro v44 w ⟨hn44, hw⟩; replace hT := hT.newOwn hw hn44.1 hn44.2
    exact ⟨hT.old, hT⟩
  · have hS := hS1.merge hT
    try simp only [List.cons_append, List.nil_append] at hS
    refine opW.call (both14 _) rfl ?_
    rintro v44 w ⟨hn44, hw⟩; replace hT := hT.newOwn hw hn44.1 hn44.2
    exact ⟨hT.old, hT⟩
  · have hS := hS1.merge hT
    try simp only [List.cons_append, List.nil_append] at hS
    refine opW.buildSl hT (([pa, az] : List Account)) [.agg (Enc.enc pa), .agg (Enc.enc az)] rfl rfl rfl rfl (by decide) ?_
    intro b43 w hw hT
    exact ⟨hT.old, hT⟩
  have hS := hS1.merge hT
  try simp only [List.cons_append, List.nil_append] at hS
  refine ML.one rfl rfl rfl (opW.call (do_ok _ v43 v44 (⟨1, ⟨some ⟨b37, 0, none⟩, 2, 2⟩, sd⟩ : Instr) ([pa, az] : List Account) bothL [0, 1] (mkD z[0].n z[1].n ow) (hS.sl (v := v43) (xs := ([pa, az] : List Account)) (by first | exact .h0 | exact .h1 | exact .h2 | exact .h3 | exact .h4 | exact .h5 | exact .h6 | exact .h7 | exact .h8 | exact .h9 | exact .h10 | exact .h11 | exact .h12 | exact .h13 | exact .h14)) (hS.sl (v := v44) (xs := bothL) (by first | exact .h0 | exact .h1 | exact .h2 | exact .h3 | exact .h4 | exact .h5 | exact .h6 | exact .h7 | exact .h8 | exact .h9 | exact .h10 | exact .h11 | exact .h12 | exact .h13 | exact .h14)) (hS.sl (v := (.slice (some ⟨b37, 0, none⟩) 2 2)) (xs := ([0, 1] : List UInt8)) (by first | exact .h0 | exact .h1 | exact .h2 | exact .h3 | exact .h4 | exact .h5 | exact .h6 | exact .h7 | exact .h8 | exact .h9 | exact .h10 | exact .h11 | exact .h12 | exact .h13 | exact .h14)) (hS.sl (v := sd.v) (xs := (mkD z[0].n z[1].n ow)) (by first | exact .h0 | exact .h1 | exact .h2 | exact .h3 | exact .h4 | exact .h5 | exact .h6 | exact .h7 | exact .h8 | exact .h9 | exact .h10 | exact .h11 | exact .h12 | exact .h13 | exact .h14)) (Nat.le_of_ble_eq_true rfl) hw2) rfl ?_)
  rintro _ w ⟨v46, rfl, hn46, hw⟩
  rw [do_mk pa az hc hs] at hn46 ⊢
  replace hT := hT.newOwn hw hn46.1 hn46.2
  refine ⟨hT.old, ?_⟩
  have hS := hS1.merge hT
  try simp only [List.cons_append, List.nil_append] at hS
  refine ML.look rfl rfl rfl (fun w hw => (by have hS := hS1.bel hw; exact opW.moveV (v := .tuple #[v46, .int .u64 (((if (mkE (mkX z[0].n z[1].n ow) pa az) ≠ 0 then 0 else z[1].n) : Nat) : Int), .int .i64 (mkE (mkX z[0].n z[1].n ow) pa az)]) rfl ⟨rfl, rfl⟩)) ?_
  refine ML.look rfl rfl rfl (fun w hw => (by have hS := hS1.bel hw; exact opW.extract rfl rfl ⟨rfl, rfl⟩)) ?_
  refine ML.look rfl rfl rfl (fun w hw => (by have hS := hS1.bel hw; exact opW.extract rfl rfl ⟨rfl, rfl⟩)) ?_
  refine ML.look rfl rfl rfl (fun w hw => (by have hS := hS1.bel hw; exact opW.extract rfl rfl ⟨rfl, rfl⟩)) ?_
  refine ML.look rfl rfl rfl (fun w hw => (by have hS := hS1.bel hw; exact opW.assignV (v := v46) rfl ⟨rfl, rfl⟩)) ?_
  refine ML.look rfl rfl rfl (fun w hw => (by have hS := hS1.bel hw; exact opW.assignI rfl ⟨rfl, rfl⟩)) ?_
  refine ML.look rfl rfl rfl (fun w hw => (by have hS := hS1.bel hw; exact opW.assignI rfl ⟨rfl, rfl⟩)) ?_
  refine ML.nil ?_
  replace hS : St w0 [ownE v46 48 (mvRes (mkE (mkX z[0].n z[1].n ow) pa az) ([({ pa with coins := pa.coins - z[0].n } : Account), (⟨z[0].n, ow, z[1].n⟩ : Account)] : List Account)), ownE (.slice (some ⟨b37, 0, none⟩) 2 2) 5 ([0, 1] : List UInt8), blkE b10 (Enc.enc (⟨1, ⟨some ⟨b37, 0, none⟩, 2, 2⟩, sd⟩ : Instr)) 26, ownE sd.v 5 (mkD z[0].n z[1].n ow), blkE b5 (Enc.enc ow) 46, blkE b4 (Enc.enc z) 54, blkE b3 (Enc.enc pa) 48] _ := ((hS.pick (e := ownE (.slice (some ⟨b37, 0, none⟩) 2 2) 5 ([0, 1] : List UInt8)) (by first | exact .h0 | exact .h1 | exact .h2 | exact .h3 | exact .h4 | exact .h5 | exact .h6 | exact .h7 | exact .h8 | exact .h9 | exact .h10 | exact .h11 | exact .h12 | exact .h13 | exact .h14)).pick (e := ownE v46 48 (mvRes (mkE (mkX z[0].n z[1].n ow) pa az) ([({ pa with coins := pa.coins - z[0].n } : Account), (⟨z[0].n, ow, z[1].n⟩ : Account)] : List Account))) (by first | exact .h0 | exact .h1 | exact .h2 | exact .h3 | exact .h4 | exact .h5 | exact .h6 | exact .h7 | exact .h8 | exact .h9 | exact .h10 | exact .h11 | exact .h12 | exact .h13 | exact .h14)).sub (by repeat (first | with_reducible exact List.nil_sublist _ | with_reducible exact List.Sublist.refl _ | with_reducible refine List.Sublist.cons₂ _ ?_ | with_reducible refine List.Sublist.cons _ ?_))
  refine thenQ_n (hK6 _ _ ?_)
  refine WC.seq (fun K7 hK7 => ?_)
  refine WC.region ?_
  refine WL.op rfl (opW.fieldAddrB rfl ?_)
  refine WL.op rfl (opW.loadV rfl (hS.ldF (cs := Enc.enc pa) (o := 1) (by first | exact .h0 | exact .h1 | exact .h2 | exact .h3 | exact .h4 | exact .h5 | exact .h6 | exact .h7 | exact .h8 | exact .h9 | exact .h10 | exact .h11 | exact .h12 | exact .h13 | exact .h14) (Account.ex_owner _) (by rw [Enc.size_eq]; decide)) ?_)
  refine WL.op rfl (opW.buildVec (k := sysK) (by first | rfl | (simp only [sysK, az, kk, enc_vset, enc_vz]; rfl)) (by intro p hp; first | (exfalso; simp at hp; done) | (simp only [List.map_cons, List.map_nil, List.mem_cons, List.not_mem_nil, or_false] at hp; rcases hp with rfl | rfl | rfl | rfl <;> exact ⟨by simp, rfl⟩)) ?_)
  refine WL.op rfl (opW.eqlE rfl rfl ?_)
  refine WL.op rfl (opW.moveB rfl ?_)
  refine WL.gd _ 54 _ rfl rfl rfl rfl (fun hg55 => opW.fieldAddrB rfl ⟨rfl, Bel.refl _⟩) (fun w hw => ?_)
  replace hS := hS.bel hw
  refine WL.gd _ 54 _ rfl rfl rfl rfl (fun hg56 => opW.loadV (by first | exact gv_of rfl hg56 | rfl) (hS.ld1 (by first | exact .h0 | exact .h1 | exact .h2 | exact .h3 | exact .h4 | exact .h5 | exact .h6 | exact .h7 | exact .h8 | exact .h9 | exact .h10 | exact .h11 | exact .h12 | exact .h13 | exact .h14) (Account.at_space pa)) ⟨rfl, Bel.refl _⟩) (fun w hw => ?_)
  replace hS := hS.bel hw
  refine WL.gd _ 54 _ rfl rfl rfl rfl (fun hg57 => opW.eql (by first | exact gv_of rfl hg57 | rfl) rfl ⟨rfl, Bel.refl _⟩) (fun w hw => ?_)
  replace hS := hS.bel hw
  refine WL.op rfl (opW.pickAnd rfl (by first | rfl) rfl ?_)
  refine WL.op rfl (opW.moveB rfl ?_)
  refine WL.gd _ 59 _ rfl rfl rfl rfl (fun hg60 => opW.moveI rfl ⟨rfl, Bel.refl _⟩) (fun w hw => ?_)
  replace hS := hS.bel hw
  refine WL.gd _ 59 _ rfl rfl rfl rfl (fun hg61 => opW.leq (by first | exact gv_of rfl hg61 | rfl) rfl ⟨rfl, Bel.refl _⟩) (fun w hw => ?_)
  replace hS := hS.bel hw
  refine WL.op rfl (opW.pickAnd rfl (by first | rfl) rfl ?_)
  refine WL.op rfl (opW.moveB rfl ?_)
  refine WL.gd _ 63 _ rfl rfl rfl rfl (fun hg64 => opW.fieldAddrB rfl ⟨rfl, Bel.refl _⟩) (fun w hw => ?_)
  replace hS := hS.bel hw
  refine WL.gd _ 63 _ rfl rfl rfl rfl (fun hg65 => opW.loadV (by first | exact gv_of rfl hg65 | rfl) (hS.ld1 (by first | exact .h0 | exact .h1 | exact .h2 | exact .h3 | exact .h4 | exact .h5 | exact .h6 | exact .h7 | exact .h8 | exact .h9 | exact .h10 | exact .h11 | exact .h12 | exact .h13 | exact .h14) (Account.at_coins pa)) ⟨rfl, Bel.refl _⟩) (fun w hw => ?_)
  replace hS := hS.bel hw
  refine WL.gd _ 63 _ rfl rfl rfl rfl (fun hg66 => opW.moveI rfl ⟨rfl, Bel.refl _⟩) (fun w hw => ?_)
  replace hS := hS.bel hw
  refine WL.gd _ 63 _ rfl rfl rfl rfl (fun hg67 => opW.geq (by first | exact gv_of rfl hg67 | rfl) (by first | exact gv_of rfl hg67 | rfl) ⟨rfl, Bel.refl _⟩) (fun w hw => ?_)
  replace hS := hS.bel hw
  refine WL.op rfl (opW.pickAnd rfl (by first | rfl) rfl ?_)
  refine WL.op rfl (opW.assignB rfl ?_)
  have hmay : (((decide (pa.owner = sysK) && decide (((pa.space : Nat) : Int) = 0)) && decide (((z[1].n : Nat) : Int) ≤ 1048576)) && decide (((z[0].n : Nat) : Int) ≤ ((pa.coins : Nat) : Int))) = decide ((mkE (mkX z[0].n z[1].n ow) pa az) = 0) := by
    rw [show (decide (pa.owner = sysK) && decide (((pa.space : Nat) : Int) = 0)) = plainB pa from rfl, Bool.eq_iff_iff, decide_eq_true_eq, mkE_az]
    simp only [Bool.and_eq_true, decide_eq_true_eq]
    constructor <;> (rintro ⟨⟨h1, h2⟩, h3⟩; exact ⟨⟨h1, (by omega)⟩, (by omega)⟩)
  rw [hmay]
  refine WL.nil ?_
  refine thenQ_n (hK7 _ _ ?_)
  refine WC.seq (fun K8 hK8 => ?_)
  refine WC.seq (fun K9 hK9 => ?_)
  refine WC.region ?_
  refine WL.op rfl (opW.moveB rfl ?_)
  refine WL.op rfl (opW.not rfl ?_)
  refine WL.nil ?_
  refine thenQ_n (hK9 _ _ ?_)
  refine WC.cond _ rfl (fun hc0 => ?_) (fun hc0 => ?_)
  ·
    have hr0 := hc0
    try simp only [decide_eq_true_eq, decide_eq_false_iff_not, Bool.and_eq_true, Bool.or_eq_true, Bool.and_eq_false_iff, Bool.or_eq_false_iff, Bool.not_eq_true', Bool.not_eq_false', Int.not_lt, Int.not_le] at hc0
    have hne : (mkE (mkX z[0].n z[1].n ow) pa az) ≠ 0 := by simpa using hr0
    refine WC.seq (fun K10 hK10 => ?_)
    refine WC.region ?_
    refine WL.op rfl (opW.moveI rfl ?_)
    refine WL.op rfl (opW.boolT (by rw [decide_eq_false hne]; rfl) (opW.neq rfl rfl ⟨rfl, rfl⟩) ?_)
    refine WL.op rfl (opW.moveB rfl ?_)
    refine WL.gT 73 rfl rfl rfl (WL.op rfl (opW.moveI rfl ?_))
    refine WL.gT 73 rfl rfl rfl (WL.op rfl (opW.boolT (by rw [if_pos hne]; rfl) (opW.eql rfl rfl ⟨rfl, rfl⟩) ?_))
    refine WL.op rfl (opW.pickT rfl rfl ?_)
    refine WL.op rfl (opW.moveB rfl ?_)
    refine WL.gT 77 rfl rfl rfl (WL.op rfl (opW.call (lives14 _) rfl ?_))
    rintro _ w ⟨rfl, hw⟩; replace hS := hS.bel hw
    refine WL.op rfl (opW.pickT rfl rfl ?_)
    refine WL.op rfl (opW.assignB rfl ?_)
    refine WL.nil ?_
    refine thenQ_n (hK10 _ _ ?_)
    refine WC.ret ?_
    refine thenQ_r ?_
    refine bodyQ_ret (.tmpB rfl .nil) ?_
    exact ⟨rfl, hS.old⟩
  ·
    have hr0 := hc0
    try simp only [decide_eq_true_eq, decide_eq_false_iff_not, Bool.and_eq_true, Bool.or_eq_true, Bool.and_eq_false_iff, Bool.or_eq_false_iff, Bool.not_eq_true', Bool.not_eq_false', Int.not_lt, Int.not_le] at hc0
    have hz : (mkE (mkX z[0].n z[1].n ow) pa az) = 0 := by simpa using hr0
    obtain ⟨⟨hpp, hsm⟩, hcl⟩ := mkE_az.1 hz
    have hn0 : ¬ ((mkE (mkX z[0].n z[1].n ow) pa az) ≠ 0) := fun e => e hz
    have el : mvRes (mkE (mkX z[0].n z[1].n ow) pa az) ([({ pa with coins := pa.coins - z[0].n } : Account), (⟨z[0].n, ow, z[1].n⟩ : Account)] : List Account) = ([({ pa with coins := pa.coins - z[0].n } : Account), (⟨z[0].n, ow, z[1].n⟩ : Account)] : List Account) := if_neg hn0
    have en : (if (mkE (mkX z[0].n z[1].n ow) pa az) ≠ 0 then 0 else z[1].n) = z[1].n := if_neg hn0
    rw [el] at hS
    rw [en, hz]
    have hN1 : ({ pa with coins := pa.coins - z[0].n } : Account) = ⟨pa.coins - z[0].n, vz 32, 0⟩ := by
      unfold plainB at hpp
      simp only [Bool.and_eq_true, decide_eq_true_eq] at hpp
      obtain ⟨h1, h2⟩ := hpp
      have h1 : pa.owner = vz 32 := h1
      have h2 : pa.space = 0 := by omega
      rw [h1, h2]
    have hwm : ∀ y ∈ ([({ pa with coins := pa.coins - z[0].n } : Account), (⟨z[0].n, ow, z[1].n⟩ : Account)] : List Account), okW y := by
      intro y hy
      simp only [List.mem_cons, List.not_mem_nil, or_false] at hy
      have hpc := hpw.1
      rcases hy with rfl | rfl
      · exact ⟨by simp only; omega, hpw.2⟩
      · exact ⟨hc, hs⟩
    have hpc := hpw.1
    refine WC.skip ?_
    refine thenQ_n (hK8 _ _ ?_)
    refine WC.seq (fun K11 hK11 => ?_)
    refine WC.seq (fun K12 hK12 => ?_)
    refine WC.draw 33 (.look 0 (.look 1 (.look 2 (.look 3 (.look 4 (.look 5 (.look 6 (.look 7 (.look 8 (.look 9 (.look 10 (.look 11 (.look 12 (.look 13 (.look 14 (.look 15 (.look 16 (.look 17 (.look 18 (.look 19 (.look 20 (.look 21 (.look 22 (.look 23 (.look 24 (.look 25 (.look 26 (.look 27 (.look 28 (.look 29 (.look 30 (.look 31 (.look 32 .nil))))))))))))))))))))))))))))))))) (by kernel_rfl) (fun _ _ _ h => h) (fun w1 hw1 => ?_)
    replace hS := hS.bel hw1
    have hS1 := hS
    have hT := St.start w1
    refine ML.look rfl rfl rfl (fun w hw => (by have hS := hS1.bel hw; exact opW.moveI rfl ⟨rfl, rfl⟩)) ?_
    refine ML.look rfl rfl rfl (fun w hw => (by have hS := hS1.bel hw; exact opW.boolF (by simp) (opW.neq rfl rfl ⟨rfl, rfl⟩) ⟨rfl, rfl⟩)) ?_
    refine ML.look rfl rfl rfl (fun w hw => (by have hS := hS1.bel hw; exact opW.moveB rfl ⟨rfl, rfl⟩)) ?_
    refine ML.lookT 82 rfl rfl rfl rfl rfl rfl (fun w hw => (by have hS := hS1.bel hw; exact opW.moveI rfl ⟨rfl, rfl⟩)) ?_
    refine ML.lookT 82 rfl rfl rfl rfl rfl rfl (fun w hw => (by have hS := hS1.bel hw; exact opW.moveI rfl ⟨rfl, rfl⟩)) ?_
    refine ML.lookT 82 rfl rfl rfl rfl rfl rfl (fun w hw => (by have hS := hS1.bel hw; exact opW.boolF (by simp) (opW.neq rfl rfl ⟨rfl, rfl⟩) ⟨rfl, rfl⟩)) ?_
    refine ML.look rfl rfl rfl (fun w hw => (by have hS := hS1.bel hw; exact opW.pickT rfl rfl ⟨rfl, rfl⟩)) ?_
    refine ML.look rfl rfl rfl (fun w hw => (by have hS := hS1.bel hw; exact opW.moveB rfl ⟨rfl, rfl⟩)) ?_
    refine ML.lookT 87 rfl rfl rfl rfl rfl rfl (fun w hw => (by have hS := hS1.bel hw; exact opW.moveV (v := v46) rfl ⟨rfl, rfl⟩)) ?_
    refine ML.lookT 87 rfl rfl rfl rfl rfl rfl (fun w hw => (by have hS := hS1.bel hw; exact opW.lenV rfl ((hS.sl (v := v46) (xs := ([({ pa with coins := pa.coins - z[0].n } : Account), (⟨z[0].n, ow, z[1].n⟩ : Account)] : List Account)) (by first | exact .h0 | exact .h1 | exact .h2 | exact .h3 | exact .h4 | exact .h5 | exact .h6 | exact .h7 | exact .h8 | exact .h9 | exact .h10 | exact .h11 | exact .h12 | exact .h13 | exact .h14))) ⟨rfl, rfl⟩)) ?_
    refine ML.lookT 87 rfl rfl rfl rfl rfl rfl (fun w hw => (by have hS := hS1.bel hw; exact opW.boolF (by rfl) (opW.neq rfl rfl ⟨rfl, rfl⟩) ⟨rfl, rfl⟩)) ?_
    refine ML.look rfl rfl rfl (fun w hw => (by have hS := hS1.bel hw; exact opW.pickT rfl rfl ⟨rfl, rfl⟩)) ?_
    refine ML.look rfl rfl rfl (fun w hw => (by have hS := hS1.bel hw; exact opW.moveB rfl ⟨rfl, rfl⟩)) ?_
    refine ML.lookT 92 rfl rfl rfl rfl rfl rfl (fun w hw => (by have hS := hS1.bel hw; exact opW.moveV (v := v46) rfl ⟨rfl, rfl⟩)) ?_
    refine ML.lookT 92 rfl rfl rfl rfl rfl rfl (fun w hw => (by have hS := hS1.bel hw; exact opW.idxV (k := .i64) (i := (0 : Int)) (v := v46) rfl (hS.sl (v := v46) (xs := ([({ pa with coins := pa.coins - z[0].n } : Account), (⟨z[0].n, ow, z[1].n⟩ : Account)] : List Account)) (by first | exact .h0 | exact .h1 | exact .h2 | exact .h3 | exact .h4 | exact .h5 | exact .h6 | exact .h7 | exact .h8 | exact .h9 | exact .h10 | exact .h11 | exact .h12 | exact .h13 | exact .h14)) rfl ⟨by decide, by show (0 : Int) < 2; decide⟩ ⟨rfl, rfl⟩)) ?_
    refine ML.lookT 92 rfl rfl rfl rfl rfl rfl (fun w hw => (by have hS := hS1.bel hw; exact opW.loadV rfl ((show Pt _ _ (Enc.enc ({ pa with coins := pa.coins - z[0].n } : Account)) from (hS.sl (v := v46) (xs := ([({ pa with coins := pa.coins - z[0].n } : Account), (⟨z[0].n, ow, z[1].n⟩ : Account)] : List Account)) (by first | exact .h0 | exact .h1 | exact .h2 | exact .h3 | exact .h4 | exact .h5 | exact .h6 | exact .h7 | exact .h8 | exact .h9 | exact .h10 | exact .h11 | exact .h12 | exact .h13 | exact .h14)).isPt (i := 0) (by show 0 < 2; decide)).ldA (Enc.size_eq ({ pa with coins := pa.coins - z[0].n } : Account))) ⟨rfl, rfl⟩)) ?_
    refine ML.lookT 92 rfl rfl rfl rfl rfl rfl (fun w hw => (by have hS := hS1.bel hw; exact opW.fieldAddrB rfl ⟨rfl, rfl⟩)) ?_
    refine ML.lookT 92 rfl rfl rfl rfl rfl rfl (fun w hw => (by have hS := hS1.bel hw; exact opW.loadV rfl (hS.ld1 (by first | exact .h0 | exact .h1 | exact .h2 | exact .h3 | exact .h4 | exact .h5 | exact .h6 | exact .h7 | exact .h8 | exact .h9 | exact .h10 | exact .h11 | exact .h12 | exact .h13 | exact .h14) (Account.at_coins pa)) ⟨rfl, rfl⟩)) ?_
    refine ML.lookT 92 rfl rfl rfl rfl rfl rfl (fun w hw => (by have hS := hS1.bel hw; exact opW.moveI rfl ⟨rfl, rfl⟩)) ?_
    refine ML.lookT 92 rfl rfl rfl rfl rfl rfl (fun w hw => (by have hS := hS1.bel hw; exact opW.sub rfl rfl (nsub hcl hpc) ⟨rfl, rfl⟩)) ?_
    refine ML.lookT 92 rfl rfl rfl rfl rfl rfl (fun w hw => (by have hS := hS1.bel hw; exact opW.buildE (r := ((⟨pa.coins - z[0].n, vz 32, 0⟩ : Account) : Account)) (ps := Account.parts ((⟨pa.coins - z[0].n, vz 32, 0⟩ : Account) : Account)) (Account.enc_eq _) (by first | (simp only [sysK, az, kk, enc_vset, enc_vz, Account.enc_eq, Account.parts, Role.enc_eq, Role.parts, Instr.enc_eq, Instr.parts, Ask.enc_eq, Ask.parts, Cut.enc_eq, Cut.parts, PairS.enc_eq, PairS.parts, RAsk.enc_eq, RAsk.parts, LAsk.enc_eq, LAsk.parts]; rfl) | rfl) (by (repeat' (first | exact trivial | refine And.intro ?_ ?_)) <;> first | rfl | exact Enc.size_eq _ | (simp; done)) ⟨rfl, rfl⟩)) ?_
    refine ML.lookT 92 rfl rfl rfl rfl rfl rfl (fun w hw => (by have hS := hS1.bel hw; exact opW.boolF (by rw [hN1]; simp) (opW.neqE rfl rfl ⟨rfl, rfl⟩) ⟨rfl, rfl⟩)) ?_
    refine ML.look rfl rfl rfl (fun w hw => (by have hS := hS1.bel hw; exact opW.pickT rfl rfl ⟨rfl, rfl⟩)) ?_
    refine ML.look rfl rfl rfl (fun w hw => (by have hS := hS1.bel hw; exact opW.moveB rfl ⟨rfl, rfl⟩)) ?_
    refine ML.lookT 103 rfl rfl rfl rfl rfl rfl (fun w hw => (by have hS := hS1.bel hw; exact opW.moveV (v := v46) rfl ⟨rfl, rfl⟩)) ?_
    refine ML.lookT 103 rfl rfl rfl rfl rfl rfl (fun w hw => (by have hS := hS1.bel hw; exact opW.idxV (k := .i64) (i := (1 : Int)) (v := v46) rfl (hS.sl (v := v46) (xs := ([({ pa with coins := pa.coins - z[0].n } : Account), (⟨z[0].n, ow, z[1].n⟩ : Account)] : List Account)) (by first | exact .h0 | exact .h1 | exact .h2 | exact .h3 | exact .h4 | exact .h5 | exact .h6 | exact .h7 | exact .h8 | exact .h9 | exact .h10 | exact .h11 | exact .h12 | exact .h13 | exact .h14)) rfl ⟨by decide, by show (1 : Int) < 2; decide⟩ ⟨rfl, rfl⟩)) ?_
    refine ML.lookT 103 rfl rfl rfl rfl rfl rfl (fun w hw => (by have hS := hS1.bel hw; exact opW.loadV rfl ((show Pt _ _ (Enc.enc (⟨z[0].n, ow, z[1].n⟩ : Account)) from (hS.sl (v := v46) (xs := ([({ pa with coins := pa.coins - z[0].n } : Account), (⟨z[0].n, ow, z[1].n⟩ : Account)] : List Account)) (by first | exact .h0 | exact .h1 | exact .h2 | exact .h3 | exact .h4 | exact .h5 | exact .h6 | exact .h7 | exact .h8 | exact .h9 | exact .h10 | exact .h11 | exact .h12 | exact .h13 | exact .h14)).isPt (i := 1) (by show 1 < 2; decide)).ldA (Enc.size_eq (⟨z[0].n, ow, z[1].n⟩ : Account))) ⟨rfl, rfl⟩)) ?_
    refine ML.lookT 103 rfl rfl rfl rfl rfl rfl (fun w hw => (by have hS := hS1.bel hw; exact opW.moveI rfl ⟨rfl, rfl⟩)) ?_
    refine ML.lookT 103 rfl rfl rfl rfl rfl rfl (fun w hw => (by have hS := hS1.bel hw; exact opW.loadV rfl (hS.ldA (cs := Enc.enc ow) (by first | exact .h0 | exact .h1 | exact .h2 | exact .h3 | exact .h4 | exact .h5 | exact .h6 | exact .h7 | exact .h8 | exact .h9 | exact .h10 | exact .h11 | exact .h12 | exact .h13 | exact .h14) (Enc.size_eq _)) ⟨rfl, rfl⟩)) ?_
    refine ML.lookT 103 rfl rfl rfl rfl rfl rfl (fun w hw => (by have hS := hS1.bel hw; exact opW.moveI rfl ⟨rfl, rfl⟩)) ?_
    refine ML.lookT 103 rfl rfl rfl rfl rfl rfl (fun w hw => (by have hS := hS1.bel hw; exact opW.buildE (r := ((⟨z[0].n, ow, z[1].n⟩ : Account) : Account)) (ps := Account.parts ((⟨z[0].n, ow, z[1].n⟩ : Account) : Account)) (Account.enc_eq _) (by first | (simp only [sysK, az, kk, enc_vset, enc_vz, Account.enc_eq, Account.parts, Role.enc_eq, Role.parts, Instr.enc_eq, Instr.parts, Ask.enc_eq, Ask.parts, Cut.enc_eq, Cut.parts, PairS.enc_eq, PairS.parts, RAsk.enc_eq, RAsk.parts, LAsk.enc_eq, LAsk.parts]; rfl) | rfl) (by (repeat' (first | exact trivial | refine And.intro ?_ ?_)) <;> first | rfl | exact Enc.size_eq _ | (simp; done)) ⟨rfl, rfl⟩)) ?_
    refine ML.lookT 103 rfl rfl rfl rfl rfl rfl (fun w hw => (by have hS := hS1.bel hw; exact opW.boolF (by simp) (opW.neqE rfl rfl ⟨rfl, rfl⟩) ⟨rfl, rfl⟩)) ?_
    refine ML.look rfl rfl rfl (fun w hw => (by have hS := hS1.bel hw; exact opW.pickT rfl rfl ⟨rfl, rfl⟩)) ?_
    refine ML.nil ?_
    refine thenQ_n (hK12 _ _ ?_)
    refine WC.cond _ rfl (fun hc1 => ?_) (fun hc1 => ?_)
    ·
      have hr1 := hc1
      try simp only [decide_eq_true_eq, decide_eq_false_iff_not, Bool.and_eq_true, Bool.or_eq_true, Bool.and_eq_false_iff, Bool.or_eq_false_iff, Bool.not_eq_true', Bool.not_eq_false', Int.not_lt, Int.not_le] at hc1
      exact absurd hr1 (by decide)
    ·
      have hr1 := hc1
      try simp only [decide_eq_true_eq, decide_eq_false_iff_not, Bool.and_eq_true, Bool.or_eq_true, Bool.and_eq_false_iff, Bool.or_eq_false_iff, Bool.not_eq_true', Bool.not_eq_false', Int.not_lt, Int.not_le] at hc1
      refine WC.skip ?_
      refine thenQ_n (hK11 _ _ ?_)
      refine WC.seq (fun K13 hK13 => ?_)
      refine WC.region ?_
      refine WL.op rfl (opW.moveV (v := v46) rfl ?_)
      refine WL.op rfl (opW.idxV (k := .i64) (i := (1 : Int)) (v := v46) rfl (hS.sl (v := v46) (xs := ([({ pa with coins := pa.coins - z[0].n } : Account), (⟨z[0].n, ow, z[1].n⟩ : Account)] : List Account)) (by first | exact .h0 | exact .h1 | exact .h2 | exact .h3 | exact .h4 | exact .h5 | exact .h6 | exact .h7 | exact .h8 | exact .h9 | exact .h10 | exact .h11 | exact .h12 | exact .h13 | exact .h14)) rfl ⟨by decide, by show (1 : Int) < 2; decide⟩ ?_)
      refine WL.op rfl (opW.loadV rfl ((show Pt _ _ (Enc.enc (⟨z[0].n, ow, z[1].n⟩ : Account)) from (hS.sl (v := v46) (xs := ([({ pa with coins := pa.coins - z[0].n } : Account), (⟨z[0].n, ow, z[1].n⟩ : Account)] : List Account)) (by first | exact .h0 | exact .h1 | exact .h2 | exact .h3 | exact .h4 | exact .h5 | exact .h6 | exact .h7 | exact .h8 | exact .h9 | exact .h10 | exact .h11 | exact .h12 | exact .h13 | exact .h14)).isPt (i := 1) (by show 1 < 2; decide)).ldA (Enc.size_eq (⟨z[0].n, ow, z[1].n⟩ : Account))) ?_)
      refine WL.op rfl (opW.buildE (r := ((az : Account) : Account)) (ps := Account.parts ((az : Account) : Account)) (Account.enc_eq _) (by first | (simp only [sysK, az, kk, enc_vset, enc_vz, Account.enc_eq, Account.parts, Role.enc_eq, Role.parts, Instr.enc_eq, Instr.parts, Ask.enc_eq, Ask.parts, Cut.enc_eq, Cut.parts, PairS.enc_eq, PairS.parts, RAsk.enc_eq, RAsk.parts, LAsk.enc_eq, LAsk.parts]; rfl) | rfl) (by (repeat' (first | exact trivial | refine And.intro ?_ ?_)) <;> first | rfl | exact Enc.size_eq _ | (simp; done)) ?_)
      refine WL.op rfl (opW.eqlE rfl rfl ?_)
      refine WL.op rfl (opW.assignB rfl ?_)
      refine WL.nil ?_
      refine thenQ_n (hK13 _ _ ?_)
      refine WC.seq (fun K14 hK14 => ?_)
      refine WC.draw 11 (.look 0 (.look 2 (.one 1 (.one 3 (.look 4 (.look 5 (.look 6 (.look 7 (.look 8 (.look 9 (.look 10 .nil))))))))))) (by kernel_rfl) (fun _ _ _ h => h) (fun w1 hw1 => ?_)
      replace hS := hS.bel hw1
      have hS1 := hS
      have hT := St.start w1
      refine ML.look rfl rfl rfl (fun w hw => (by have hS := hS1.bel hw; exact opW.moveV (v := v46) rfl ⟨rfl, rfl⟩)) ?_
      refine ML.look rfl rfl rfl (fun w hw => (by have hS := hS1.bel hw; exact opW.loadV rfl (hS.ldA (cs := Enc.enc (⟨1, ⟨some ⟨b37, 0, none⟩, 2, 2⟩, sd⟩ : Instr)) (by first | exact .h0 | exact .h1 | exact .h2 | exact .h3 | exact .h4 | exact .h5 | exact .h6 | exact .h7 | exact .h8 | exact .h9 | exact .h10 | exact .h11 | exact .h12 | exact .h13 | exact .h14) (Enc.size_eq _)) ⟨rfl, rfl⟩)) ?_
      refine ML.one rfl rfl rfl (opW.call (both14 _) rfl ?_)
      rintro v120 w ⟨hn120, hw⟩; replace hT := hT.newOwn hw hn120.1 hn120.2
      refine ⟨hT.old, ?_⟩
      have hS := hS1.merge hT
      try simp only [List.cons_append, List.nil_append] at hS
      refine ML.one rfl rfl rfl (opW.call (do_ok _ v46 v120 (⟨1, ⟨some ⟨b37, 0, none⟩, 2, 2⟩, sd⟩ : Instr) ([({ pa with coins := pa.coins - z[0].n } : Account), (⟨z[0].n, ow, z[1].n⟩ : Account)] : List Account) bothL [0, 1] (mkD z[0].n z[1].n ow) (hS.sl (v := v46) (xs := ([({ pa with coins := pa.coins - z[0].n } : Account), (⟨z[0].n, ow, z[1].n⟩ : Account)] : List Account)) (by first | exact .h0 | exact .h1 | exact .h2 | exact .h3 | exact .h4 | exact .h5 | exact .h6 | exact .h7 | exact .h8 | exact .h9 | exact .h10 | exact .h11 | exact .h12 | exact .h13 | exact .h14)) (hS.sl (v := v120) (xs := bothL) (by first | exact .h0 | exact .h1 | exact .h2 | exact .h3 | exact .h4 | exact .h5 | exact .h6 | exact .h7 | exact .h8 | exact .h9 | exact .h10 | exact .h11 | exact .h12 | exact .h13 | exact .h14)) (hS.sl (v := (.slice (some ⟨b37, 0, none⟩) 2 2)) (xs := ([0, 1] : List UInt8)) (by first | exact .h0 | exact .h1 | exact .h2 | exact .h3 | exact .h4 | exact .h5 | exact .h6 | exact .h7 | exact .h8 | exact .h9 | exact .h10 | exact .h11 | exact .h12 | exact .h13 | exact .h14)) (hS.sl (v := sd.v) (xs := (mkD z[0].n z[1].n ow)) (by first | exact .h0 | exact .h1 | exact .h2 | exact .h3 | exact .h4 | exact .h5 | exact .h6 | exact .h7 | exact .h8 | exact .h9 | exact .h10 | exact .h11 | exact .h12 | exact .h13 | exact .h14)) (Nat.le_of_ble_eq_true rfl) hwm) rfl ?_)
      rintro _ w ⟨v122, rfl, hn122, hw⟩
      replace hT := hT.bel hw
      refine ⟨hT.old, ?_⟩
      have hS := hS1.merge hT
      try simp only [List.cons_append, List.nil_append] at hS
      refine ML.look rfl rfl rfl (fun w hw => (by have hS := hS1.bel hw; exact opW.moveV (v := .tuple #[v122, .int .u64 ((doF ([({ pa with coins := pa.coins - z[0].n } : Account), (⟨z[0].n, ow, z[1].n⟩ : Account)] : List Account) bothL [0, 1] (mkD z[0].n z[1].n ow)).2.1 : Int), .int .i64 (doF ([({ pa with coins := pa.coins - z[0].n } : Account), (⟨z[0].n, ow, z[1].n⟩ : Account)] : List Account) bothL [0, 1] (mkD z[0].n z[1].n ow)).1]) rfl ⟨rfl, rfl⟩)) ?_
      refine ML.look rfl rfl rfl (fun w hw => (by have hS := hS1.bel hw; exact opW.extract rfl rfl ⟨rfl, rfl⟩)) ?_
      refine ML.look rfl rfl rfl (fun w hw => (by have hS := hS1.bel hw; exact opW.extract rfl rfl ⟨rfl, rfl⟩)) ?_
      refine ML.look rfl rfl rfl (fun w hw => (by have hS := hS1.bel hw; exact opW.extract rfl rfl ⟨rfl, rfl⟩)) ?_
      refine ML.look rfl rfl rfl (fun w hw => (by have hS := hS1.bel hw; exact opW.assignV rfl ⟨rfl, rfl⟩)) ?_
      refine ML.look rfl rfl rfl (fun w hw => (by have hS := hS1.bel hw; exact opW.assignI rfl ⟨rfl, rfl⟩)) ?_
      refine ML.look rfl rfl rfl (fun w hw => (by have hS := hS1.bel hw; exact opW.assignI rfl ⟨rfl, rfl⟩)) ?_
      refine ML.nil ?_
      replace hS : St w0 [ownE v46 48 ([({ pa with coins := pa.coins - z[0].n } : Account), (⟨z[0].n, ow, z[1].n⟩ : Account)] : List Account), ownE (.slice (some ⟨b37, 0, none⟩) 2 2) 5 ([0, 1] : List UInt8), blkE b10 (Enc.enc (⟨1, ⟨some ⟨b37, 0, none⟩, 2, 2⟩, sd⟩ : Instr)) 26, ownE sd.v 5 (mkD z[0].n z[1].n ow), blkE b5 (Enc.enc ow) 46, blkE b4 (Enc.enc z) 54, blkE b3 (Enc.enc pa) 48] _ := hS.sub (by repeat (first | with_reducible exact List.nil_sublist _ | with_reducible exact List.Sublist.refl _ | with_reducible refine List.Sublist.cons₂ _ ?_ | with_reducible refine List.Sublist.cons _ ?_))
      refine thenQ_n (hK14 _ _ ?_)
      refine WC.seq (fun K15 hK15 => ?_)
      refine WC.region ?_
      refine WL.op rfl (opW.buildSl hS (([1] : List UInt8)) [.int .u8 1] rfl rfl rfl rfl (by decide) ?_)
      intro b126 w hw hS
      refine WL.op rfl (opW.call (number14 _ 8 4 (by decide) (by decide)) rfl ?_)
      rintro v127 w ⟨hn127, hw⟩; replace hS := hS.newOwn hw hn127.1 hn127.2
      refine WL.op rfl (opW.call (number14 _ 5 8 (by decide) (by decide)) rfl ?_)
      rintro v128 w ⟨hn128, hw⟩; replace hS := hS.newOwn hw hn128.1 hn128.2
      refine WL.op rfl (opW.appendOwn (α := UInt8) (v := v127) (xs := leB 8 4) rfl hS rfl (by first | exact .h0 | exact .h1 | exact .h2 | exact .h3 | exact .h4 | exact .h5 | exact .h6 | exact .h7 | exact .h8 | exact .h9 | exact .h10 | exact .h11 | exact .h12 | exact .h13 | exact .h14) (hS.sl (v := v128) (xs := leB 5 8) (by first | exact .h0 | exact .h1 | exact .h2 | exact .h3 | exact .h4 | exact .h5 | exact .h6 | exact .h7 | exact .h8 | exact .h9 | exact .h10 | exact .h11 | exact .h12 | exact .h13 | exact .h14)) (by simp only [leB_len, List.length_append, Vector.length_toList]; omega) (by simp only [maxLen, leB_len, List.length_append, Vector.length_toList]; omega) ?_)
      intro v129 w hS; replace hS := hS _ (by first | exact .h0 | exact .h1 | exact .h2 | exact .h3 | exact .h4 | exact .h5 | exact .h6 | exact .h7 | exact .h8 | exact .h9 | exact .h10 | exact .h11 | exact .h12 | exact .h13 | exact .h14)
      obtain ⟨sg, rfl⟩ := (hS.sl (v := v129) (xs := gvD) (by first | exact .h0 | exact .h1 | exact .h2 | exact .h3 | exact .h4 | exact .h5 | exact .h6 | exact .h7 | exact .h8 | exact .h9 | exact .h10 | exact .h11 | exact .h12 | exact .h13 | exact .h14)).asV
      refine WL.op rfl (opW.buildE (r := ((⟨1, ⟨some ⟨b126, 0, none⟩, 1, 1⟩, sg⟩ : Instr) : Instr)) (ps := Instr.parts ((⟨1, ⟨some ⟨b126, 0, none⟩, 1, 1⟩, sg⟩ : Instr) : Instr)) (Instr.enc_eq _) (by first | rfl | (simp only [sysK, az, kk, enc_vset, enc_vz, Account.enc_eq, Account.parts, Role.enc_eq, Role.parts, Instr.enc_eq, Instr.parts, Ask.enc_eq, Ask.parts, Cut.enc_eq, Cut.parts, PairS.enc_eq, PairS.parts, RAsk.enc_eq, RAsk.parts, LAsk.enc_eq, LAsk.parts]; rfl)) (by (repeat' (first | exact trivial | refine And.intro ?_ ?_)) <;> first | rfl | exact Enc.size_eq _ | (simp; done)) ?_)
      refine WL.op rfl (opW.allocA hS ?_)
      intro b19 w _ hS
      refine WL.op0 (opW.storeE hS rfl rfl (by first | exact .h0 | exact .h1 | exact .h2 | exact .h3 | exact .h4 | exact .h5 | exact .h6 | exact .h7 | exact .h8 | exact .h9 | exact .h10 | exact .h11 | exact .h12 | exact .h13 | exact .h14) (by first | rfl | exact Enc.size_eq _) ?_)
      intro w hS; replace hS := hS _ (by first | exact .h0 | exact .h1 | exact .h2 | exact .h3 | exact .h4 | exact .h5 | exact .h6 | exact .h7 | exact .h8 | exact .h9 | exact .h10 | exact .h11 | exact .h12 | exact .h13 | exact .h14)
      refine WL.nil ?_
      refine thenQ_n (hK15 _ _ ?_)
      refine WC.seq (fun K16 hK16 => ?_)
      refine WC.draw 11 (.look 0 (.look 2 (.one 1 (.one 3 (.look 4 (.look 5 (.look 6 (.look 7 (.look 8 (.look 9 (.look 10 .nil))))))))))) (by kernel_rfl) (fun _ _ _ h => h) (fun w1 hw1 => ?_)
      replace hS := hS.bel hw1
      have hS1 := hS
      have hT := St.start w1
      refine ML.look rfl rfl rfl (fun w hw => (by have hS := hS1.bel hw; exact opW.moveV (v := v46) rfl ⟨rfl, rfl⟩)) ?_
      refine ML.look rfl rfl rfl (fun w hw => (by have hS := hS1.bel hw; exact opW.loadV rfl (hS.ldA (cs := Enc.enc (⟨1, ⟨some ⟨b126, 0, none⟩, 1, 1⟩, sg⟩ : Instr)) (by first | exact .h0 | exact .h1 | exact .h2 | exact .h3 | exact .h4 | exact .h5 | exact .h6 | exact .h7 | exact .h8 | exact .h9 | exact .h10 | exact .h11 | exact .h12 | exact .h13 | exact .h14) (Enc.size_eq _)) ⟨rfl, rfl⟩)) ?_
      refine ML.one rfl rfl rfl (opW.call (both14 _) rfl ?_)
      rintro v133 w ⟨hn133, hw⟩; replace hT := hT.newOwn hw hn133.1 hn133.2
      refine ⟨hT.old, ?_⟩
      have hS := hS1.merge hT
      try simp only [List.cons_append, List.nil_append] at hS
      refine ML.one rfl rfl rfl (opW.call (do_ok _ v46 v133 (⟨1, ⟨some ⟨b126, 0, none⟩, 1, 1⟩, sg⟩ : Instr) ([({ pa with coins := pa.coins - z[0].n } : Account), (⟨z[0].n, ow, z[1].n⟩ : Account)] : List Account) bothL [1] gvD (hS.sl (v := v46) (xs := ([({ pa with coins := pa.coins - z[0].n } : Account), (⟨z[0].n, ow, z[1].n⟩ : Account)] : List Account)) (by first | exact .h0 | exact .h1 | exact .h2 | exact .h3 | exact .h4 | exact .h5 | exact .h6 | exact .h7 | exact .h8 | exact .h9 | exact .h10 | exact .h11 | exact .h12 | exact .h13 | exact .h14)) (hS.sl (v := v133) (xs := bothL) (by first | exact .h0 | exact .h1 | exact .h2 | exact .h3 | exact .h4 | exact .h5 | exact .h6 | exact .h7 | exact .h8 | exact .h9 | exact .h10 | exact .h11 | exact .h12 | exact .h13 | exact .h14)) (hS.sl (v := .slice (some ⟨b126, 0, none⟩) 1 1) (xs := ([1] : List UInt8)) (by first | exact .h0 | exact .h1 | exact .h2 | exact .h3 | exact .h4 | exact .h5 | exact .h6 | exact .h7 | exact .h8 | exact .h9 | exact .h10 | exact .h11 | exact .h12 | exact .h13 | exact .h14)) (hS.sl (v := sg.v) (xs := gvD) (by first | exact .h0 | exact .h1 | exact .h2 | exact .h3 | exact .h4 | exact .h5 | exact .h6 | exact .h7 | exact .h8 | exact .h9 | exact .h10 | exact .h11 | exact .h12 | exact .h13 | exact .h14)) (Nat.le_of_ble_eq_true rfl) hwm) rfl ?_)
      rintro _ w ⟨v135, rfl, hn135, hw⟩
      rw [do_gv] at hn135 ⊢
      replace hT := hT.newOwn hw hn135.1 hn135.2
      refine ⟨hT.old, ?_⟩
      have hS := hS1.merge hT
      try simp only [List.cons_append, List.nil_append] at hS
      refine ML.look rfl rfl rfl (fun w hw => (by have hS := hS1.bel hw; exact opW.moveV (v := .tuple #[v135, .int .u64 (((if (plainB (⟨z[0].n, ow, z[1].n⟩ : Account)) = true then 5 else 0) : Nat) : Int), .int .i64 (if (plainB (⟨z[0].n, ow, z[1].n⟩ : Account)) = true then 0 else 12)]) rfl ⟨rfl, rfl⟩)) ?_
      refine ML.look rfl rfl rfl (fun w hw => (by have hS := hS1.bel hw; exact opW.extract rfl rfl ⟨rfl, rfl⟩)) ?_
      refine ML.look rfl rfl rfl (fun w hw => (by have hS := hS1.bel hw; exact opW.extract rfl rfl ⟨rfl, rfl⟩)) ?_
      refine ML.look rfl rfl rfl (fun w hw => (by have hS := hS1.bel hw; exact opW.extract rfl rfl ⟨rfl, rfl⟩)) ?_
      refine ML.look rfl rfl rfl (fun w hw => (by have hS := hS1.bel hw; exact opW.assignV (v := v135) rfl ⟨rfl, rfl⟩)) ?_
      refine ML.look rfl rfl rfl (fun w hw => (by have hS := hS1.bel hw; exact opW.assignI rfl ⟨rfl, rfl⟩)) ?_
      refine ML.look rfl rfl rfl (fun w hw => (by have hS := hS1.bel hw; exact opW.assignI rfl ⟨rfl, rfl⟩)) ?_
      refine ML.nil ?_
      refine thenQ_n (hK16 _ _ ?_)
      refine WC.seq (fun K17 hK17 => ?_)
      refine WC.region ?_
      refine WL.op rfl (opW.loadV rfl (hS.ldA (cs := Enc.enc ow) (by first | exact .h0 | exact .h1 | exact .h2 | exact .h3 | exact .h4 | exact .h5 | exact .h6 | exact .h7 | exact .h8 | exact .h9 | exact .h10 | exact .h11 | exact .h12 | exact .h13 | exact .h14) (Enc.size_eq _)) ?_)
      refine WL.op rfl (opW.buildVec (k := sysK) (by first | rfl | (simp only [sysK, az, kk, enc_vset, enc_vz]; rfl)) (by intro p hp; first | (exfalso; simp at hp; done) | (simp only [List.map_cons, List.map_nil, List.mem_cons, List.not_mem_nil, or_false] at hp; rcases hp with rfl | rfl | rfl | rfl <;> exact ⟨by simp, rfl⟩)) ?_)
      refine WL.op rfl (opW.eqlE rfl rfl ?_)
      refine WL.op rfl (opW.moveB rfl ?_)
      refine WL.gd _ 142 _ rfl rfl rfl rfl (fun hg143 => opW.moveI rfl ⟨rfl, Bel.refl _⟩) (fun w hw => ?_)
      replace hS := hS.bel hw
      refine WL.gd _ 142 _ rfl rfl rfl rfl (fun hg144 => opW.eql (by first | exact gv_of rfl hg144 | rfl) rfl ⟨rfl, Bel.refl _⟩) (fun w hw => ?_)
      replace hS := hS.bel hw
      refine WL.op rfl (opW.pickAnd rfl (by first | rfl) rfl ?_)
      refine WL.op rfl (opW.assignB rfl ?_)
      replace hS : St w0 [ownE v135 48 (if (plainB (⟨z[0].n, ow, z[1].n⟩ : Account)) = true then ([({ pa with coins := pa.coins - z[0].n } : Account), ({ (⟨z[0].n, ow, z[1].n⟩ : Account) with space := 5 } : Account)] : List Account) else []), blkE b5 (Enc.enc ow) 46, blkE b4 (Enc.enc z) 54, blkE b3 (Enc.enc pa) 48] _ := hS.sub (by repeat (first | with_reducible exact List.nil_sublist _ | with_reducible exact List.Sublist.refl _ | with_reducible refine List.Sublist.cons₂ _ ?_ | with_reducible refine List.Sublist.cons _ ?_))
      rw [show (decide (ow = sysK) && decide (((z[1].n : Nat) : Int) = 0)) = (plainB (⟨z[0].n, ow, z[1].n⟩ : Account)) from rfl]
      generalize hpl : (plainB (⟨z[0].n, ow, z[1].n⟩ : Account)) = pl at hS ⊢
      refine WL.nil ?_
      refine thenQ_n (hK17 _ _ ?_)
      refine WC.seq (fun K18 hK18 => ?_)
      refine WC.region ?_
      refine WL.op rfl (opW.moveB rfl ?_)
      refine WL.op rfl (opW.moveB rfl ?_)
      cases hcs147 : (decide ((⟨z[0].n, ow, z[1].n⟩ : Account) = az)) with
      | true =>
        refine WL.gF 147 rfl rfl rfl rfl ?_
        refine WL.gF 147 rfl rfl rfl rfl ?_
        refine WL.op rfl (opW.pickT rfl rfl ?_)
        refine WL.op rfl (opW.moveB rfl ?_)
        refine WL.gT 151 rfl rfl rfl (WL.op rfl (opW.moveI rfl ?_))
        refine WL.gT 151 rfl rfl rfl (WL.op rfl (opW.eql rfl rfl ?_))
        refine WL.gT 151 rfl rfl rfl (WL.op rfl (opW.moveB rfl ?_))
        refine WL.gT 151 rfl rfl rfl (WL.op rfl (opW.boolT (by cases pl <;> rfl) (opW.eqlB rfl rfl ⟨rfl, rfl⟩) ?_))
        refine WL.op rfl (opW.pickT rfl rfl ?_)
        refine WL.op rfl (opW.moveB rfl ?_)
        refine WL.gT 157 rfl rfl rfl (WL.op rfl (opW.moveB rfl ?_))
        refine WL.gT 157 rfl rfl rfl (WL.op rfl (opW.not rfl ?_))
        refine WL.gT 157 rfl rfl rfl (WL.op rfl (opW.moveB rfl ?_))
        cases hcs160 : (!pl) with
        | true =>
          refine WL.gF 160 rfl rfl rfl rfl ?_
          refine WL.gF 160 rfl rfl rfl rfl ?_
          refine WL.gF 160 rfl rfl rfl rfl ?_
          refine WL.gU 163 rfl rfl rfl rfl ?_
          refine WL.gU 163 rfl rfl rfl rfl ?_
          refine WL.gU 163 rfl rfl rfl rfl ?_
          refine WL.gF 160 rfl rfl rfl rfl ?_
          refine WL.gF 160 rfl rfl rfl rfl ?_
          refine WL.gU 168 rfl rfl rfl rfl ?_
          refine WL.gU 168 rfl rfl rfl rfl ?_
          refine WL.gU 168 rfl rfl rfl rfl ?_
          refine WL.gU 168 rfl rfl rfl rfl ?_
          refine WL.gU 168 rfl rfl rfl rfl ?_
          refine WL.gF 160 rfl rfl rfl rfl ?_
          refine WL.gF 160 rfl rfl rfl rfl ?_
          refine WL.gU 175 rfl rfl rfl rfl ?_
          refine WL.gU 175 rfl rfl rfl rfl ?_
          refine WL.gU 175 rfl rfl rfl rfl ?_
          refine WL.gU 175 rfl rfl rfl rfl ?_
          refine WL.gU 175 rfl rfl rfl rfl ?_
          refine WL.gU 175 rfl rfl rfl rfl ?_
          refine WL.gF 160 rfl rfl rfl rfl ?_
          refine WL.gT 157 rfl rfl rfl (WL.op rfl (opW.pickT rfl rfl ?_))
          refine WL.op rfl (opW.pickT rfl rfl ?_)
          refine WL.op rfl (opW.moveB rfl ?_)
          refine WL.gT 185 rfl rfl rfl (WL.op rfl (opW.call (lives14 _) rfl ?_))
          rintro _ w ⟨rfl, hw⟩; replace hS := hS.bel hw
          refine WL.op rfl (opW.pickT rfl rfl ?_)
          refine WL.op rfl (opW.assignB rfl ?_)
          refine WL.nil ?_
          refine thenQ_n (hK18 _ _ ?_)
          refine WC.ret ?_
          refine bodyQ_ret (.tmpB rfl .nil) ?_
          exact ⟨rfl, hS.old⟩
        | false =>
          refine WL.gT 160 rfl rfl rfl (WL.op rfl (opW.moveI rfl ?_))
          have hp : pl = true := by simpa using hcs160
          rw [if_pos hp] at hS
          refine WL.gT 160 rfl rfl rfl (WL.op rfl (opW.boolT (by rw [hp]; rfl) (opW.eql rfl rfl ⟨rfl, rfl⟩) ?_))
          refine WL.gT 160 rfl rfl rfl (WL.op rfl (opW.moveB rfl ?_))
          refine WL.gT 163 rfl rfl rfl (WL.op rfl (opW.moveV (v := v135) rfl ?_))
          refine WL.gT 163 rfl rfl rfl (WL.op rfl (opW.lenV rfl (hS.sl (v := v135) (xs := ([({ pa with coins := pa.coins - z[0].n } : Account), ({ (⟨z[0].n, ow, z[1].n⟩ : Account) with space := 5 } : Account)] : List Account)) (by first | exact .h0 | exact .h1 | exact .h2 | exact .h3 | exact .h4 | exact .h5 | exact .h6 | exact .h7 | exact .h8 | exact .h9 | exact .h10 | exact .h11 | exact .h12 | exact .h13 | exact .h14)) ?_))
          refine WL.gT 163 rfl rfl rfl (WL.op rfl (opW.boolT (by rfl) (opW.eql rfl rfl ⟨rfl, rfl⟩) ?_))
          refine WL.gT 160 rfl rfl rfl (WL.op rfl (opW.pickT rfl rfl ?_))
          refine WL.gT 160 rfl rfl rfl (WL.op rfl (opW.moveB rfl ?_))
          refine WL.gT 168 rfl rfl rfl (WL.op rfl (opW.moveV (v := v135) rfl ?_))
          refine WL.gT 168 rfl rfl rfl (WL.op rfl (opW.idxV (k := .i64) (i := (1 : Int)) (v := v135) rfl (hS.sl (v := v135) (xs := ([({ pa with coins := pa.coins - z[0].n } : Account), ({ (⟨z[0].n, ow, z[1].n⟩ : Account) with space := 5 } : Account)] : List Account)) (by first | exact .h0 | exact .h1 | exact .h2 | exact .h3 | exact .h4 | exact .h5 | exact .h6 | exact .h7 | exact .h8 | exact .h9 | exact .h10 | exact .h11 | exact .h12 | exact .h13 | exact .h14)) rfl ⟨by decide, by show (1 : Int) < 2; decide⟩ ?_))
          refine WL.gT 168 rfl rfl rfl (WL.op rfl (opW.fieldAddr rfl ((hS.sl (v := v135) (xs := ([({ pa with coins := pa.coins - z[0].n } : Account), ({ (⟨z[0].n, ow, z[1].n⟩ : Account) with space := 5 } : Account)] : List Account)) (by first | exact .h0 | exact .h1 | exact .h2 | exact .h3 | exact .h4 | exact .h5 | exact .h6 | exact .h7 | exact .h8 | exact .h9 | exact .h10 | exact .h11 | exact .h12 | exact .h13 | exact .h14)).isP (i := 1) (by show 1 < 2; decide)) ?_))
          refine WL.gT 168 rfl rfl rfl (WL.op rfl (opW.loadV rfl (Ld.pt1 ((hS.sl (v := v135) (xs := ([({ pa with coins := pa.coins - z[0].n } : Account), ({ (⟨z[0].n, ow, z[1].n⟩ : Account) with space := 5 } : Account)] : List Account)) (by first | exact .h0 | exact .h1 | exact .h2 | exact .h3 | exact .h4 | exact .h5 | exact .h6 | exact .h7 | exact .h8 | exact .h9 | exact .h10 | exact .h11 | exact .h12 | exact .h13 | exact .h14)).isPt (i := 1) (by show 1 < 2; decide)) 33 (Account.at_space ({ (⟨z[0].n, ow, z[1].n⟩ : Account) with space := 5 } : Account))) ?_))
          refine WL.gT 168 rfl rfl rfl (WL.op rfl (opW.boolT (by rfl) (opW.eql rfl rfl ⟨rfl, rfl⟩) ?_))
          refine WL.gT 160 rfl rfl rfl (WL.op rfl (opW.pickT rfl rfl ?_))
          refine WL.gT 160 rfl rfl rfl (WL.op rfl (opW.moveB rfl ?_))
          refine WL.gT 175 rfl rfl rfl (WL.op rfl (opW.moveV (v := v135) rfl ?_))
          refine WL.gT 175 rfl rfl rfl (WL.op rfl (opW.idxV (k := .i64) (i := (1 : Int)) (v := v135) rfl (hS.sl (v := v135) (xs := ([({ pa with coins := pa.coins - z[0].n } : Account), ({ (⟨z[0].n, ow, z[1].n⟩ : Account) with space := 5 } : Account)] : List Account)) (by first | exact .h0 | exact .h1 | exact .h2 | exact .h3 | exact .h4 | exact .h5 | exact .h6 | exact .h7 | exact .h8 | exact .h9 | exact .h10 | exact .h11 | exact .h12 | exact .h13 | exact .h14)) rfl ⟨by decide, by show (1 : Int) < 2; decide⟩ ?_))
          refine WL.gT 175 rfl rfl rfl (WL.op rfl (opW.fieldAddr rfl ((hS.sl (v := v135) (xs := ([({ pa with coins := pa.coins - z[0].n } : Account), ({ (⟨z[0].n, ow, z[1].n⟩ : Account) with space := 5 } : Account)] : List Account)) (by first | exact .h0 | exact .h1 | exact .h2 | exact .h3 | exact .h4 | exact .h5 | exact .h6 | exact .h7 | exact .h8 | exact .h9 | exact .h10 | exact .h11 | exact .h12 | exact .h13 | exact .h14)).isP (i := 1) (by show 1 < 2; decide)) ?_))
          refine WL.gT 175 rfl rfl rfl (WL.op rfl (opW.loadV rfl (Ld.pt1 ((hS.sl (v := v135) (xs := ([({ pa with coins := pa.coins - z[0].n } : Account), ({ (⟨z[0].n, ow, z[1].n⟩ : Account) with space := 5 } : Account)] : List Account)) (by first | exact .h0 | exact .h1 | exact .h2 | exact .h3 | exact .h4 | exact .h5 | exact .h6 | exact .h7 | exact .h8 | exact .h9 | exact .h10 | exact .h11 | exact .h12 | exact .h13 | exact .h14)).isPt (i := 1) (by show 1 < 2; decide)) 0 (Account.at_coins ({ (⟨z[0].n, ow, z[1].n⟩ : Account) with space := 5 } : Account))) ?_))
          refine WL.gT 175 rfl rfl rfl (WL.op rfl (opW.moveI rfl ?_))
          refine WL.gT 175 rfl rfl rfl (WL.op rfl (opW.boolT (by simp) (opW.eql rfl rfl ⟨rfl, rfl⟩) ?_))
          refine WL.gT 160 rfl rfl rfl (WL.op rfl (opW.pickT rfl rfl ?_))
          refine WL.gT 157 rfl rfl rfl (WL.op rfl (opW.pickT rfl rfl ?_))
          refine WL.op rfl (opW.pickT rfl rfl ?_)
          refine WL.op rfl (opW.moveB rfl ?_)
          refine WL.gT 185 rfl rfl rfl (WL.op rfl (opW.call (lives14 _) rfl ?_))
          rintro _ w ⟨rfl, hw⟩; replace hS := hS.bel hw
          refine WL.op rfl (opW.pickT rfl rfl ?_)
          refine WL.op rfl (opW.assignB rfl ?_)
          refine WL.nil ?_
          refine thenQ_n (hK18 _ _ ?_)
          refine WC.ret ?_
          refine bodyQ_ret (.tmpB rfl .nil) ?_
          exact ⟨rfl, hS.old⟩
      | false =>
        refine WL.gT 147 rfl rfl rfl (WL.op rfl (opW.moveI rfl ?_))
        refine WL.gT 147 rfl rfl rfl (WL.op rfl (opW.boolT (by rw [do_mk _ _ hc hs, mkE_there (of_decide_eq_false hcs147)]; rfl) (opW.eql rfl rfl ⟨rfl, rfl⟩) ?_))
        refine WL.op rfl (opW.pickT rfl rfl ?_)
        refine WL.op rfl (opW.moveB rfl ?_)
        refine WL.gT 151 rfl rfl rfl (WL.op rfl (opW.moveI rfl ?_))
        refine WL.gT 151 rfl rfl rfl (WL.op rfl (opW.eql rfl rfl ?_))
        refine WL.gT 151 rfl rfl rfl (WL.op rfl (opW.moveB rfl ?_))
        refine WL.gT 151 rfl rfl rfl (WL.op rfl (opW.boolT (by cases pl <;> rfl) (opW.eqlB rfl rfl ⟨rfl, rfl⟩) ?_))
        refine WL.op rfl (opW.pickT rfl rfl ?_)
        refine WL.op rfl (opW.moveB rfl ?_)
        refine WL.gT 157 rfl rfl rfl (WL.op rfl (opW.moveB rfl ?_))
        refine WL.gT 157 rfl rfl rfl (WL.op rfl (opW.not rfl ?_))
        refine WL.gT 157 rfl rfl rfl (WL.op rfl (opW.moveB rfl ?_))
        cases hcs160 : (!pl) with
        | true =>
          refine WL.gF 160 rfl rfl rfl rfl ?_
          refine WL.gF 160 rfl rfl rfl rfl ?_
          refine WL.gF 160 rfl rfl rfl rfl ?_
          refine WL.gU 163 rfl rfl rfl rfl ?_
          refine WL.gU 163 rfl rfl rfl rfl ?_
          refine WL.gU 163 rfl rfl rfl rfl ?_
          refine WL.gF 160 rfl rfl rfl rfl ?_
          refine WL.gF 160 rfl rfl rfl rfl ?_
          refine WL.gU 168 rfl rfl rfl rfl ?_
          refine WL.gU 168 rfl rfl rfl rfl ?_
          refine WL.gU 168 rfl rfl rfl rfl ?_
          refine WL.gU 168 rfl rfl rfl rfl ?_
          refine WL.gU 168 rfl rfl rfl rfl ?_
          refine WL.gF 160 rfl rfl rfl rfl ?_
          refine WL.gF 160 rfl rfl rfl rfl ?_
          refine WL.gU 175 rfl rfl rfl rfl ?_
          refine WL.gU 175 rfl rfl rfl rfl ?_
          refine WL.gU 175 rfl rfl rfl rfl ?_
          refine WL.gU 175 rfl rfl rfl rfl ?_
          refine WL.gU 175 rfl rfl rfl rfl ?_
          refine WL.gU 175 rfl rfl rfl rfl ?_
          refine WL.gF 160 rfl rfl rfl rfl ?_
          refine WL.gT 157 rfl rfl rfl (WL.op rfl (opW.pickT rfl rfl ?_))
          refine WL.op rfl (opW.pickT rfl rfl ?_)
          refine WL.op rfl (opW.moveB rfl ?_)
          refine WL.gT 185 rfl rfl rfl (WL.op rfl (opW.call (lives14 _) rfl ?_))
          rintro _ w ⟨rfl, hw⟩; replace hS := hS.bel hw
          refine WL.op rfl (opW.pickT rfl rfl ?_)
          refine WL.op rfl (opW.assignB rfl ?_)
          refine WL.nil ?_
          refine thenQ_n (hK18 _ _ ?_)
          refine WC.ret ?_
          refine bodyQ_ret (.tmpB rfl .nil) ?_
          exact ⟨rfl, hS.old⟩
        | false =>
          refine WL.gT 160 rfl rfl rfl (WL.op rfl (opW.moveI rfl ?_))
          have hp : pl = true := by simpa using hcs160
          rw [if_pos hp] at hS
          refine WL.gT 160 rfl rfl rfl (WL.op rfl (opW.boolT (by rw [hp]; rfl) (opW.eql rfl rfl ⟨rfl, rfl⟩) ?_))
          refine WL.gT 160 rfl rfl rfl (WL.op rfl (opW.moveB rfl ?_))
          refine WL.gT 163 rfl rfl rfl (WL.op rfl (opW.moveV (v := v135) rfl ?_))
          refine WL.gT 163 rfl rfl rfl (WL.op rfl (opW.lenV rfl (hS.sl (v := v135) (xs := ([({ pa with coins := pa.coins - z[0].n } : Account), ({ (⟨z[0].n, ow, z[1].n⟩ : Account) with space := 5 } : Account)] : List Account)) (by first | exact .h0 | exact .h1 | exact .h2 | exact .h3 | exact .h4 | exact .h5 | exact .h6 | exact .h7 | exact .h8 | exact .h9 | exact .h10 | exact .h11 | exact .h12 | exact .h13 | exact .h14)) ?_))
          refine WL.gT 163 rfl rfl rfl (WL.op rfl (opW.boolT (by rfl) (opW.eql rfl rfl ⟨rfl, rfl⟩) ?_))
          refine WL.gT 160 rfl rfl rfl (WL.op rfl (opW.pickT rfl rfl ?_))
          refine WL.gT 160 rfl rfl rfl (WL.op rfl (opW.moveB rfl ?_))
          refine WL.gT 168 rfl rfl rfl (WL.op rfl (opW.moveV (v := v135) rfl ?_))
          refine WL.gT 168 rfl rfl rfl (WL.op rfl (opW.idxV (k := .i64) (i := (1 : Int)) (v := v135) rfl (hS.sl (v := v135) (xs := ([({ pa with coins := pa.coins - z[0].n } : Account), ({ (⟨z[0].n, ow, z[1].n⟩ : Account) with space := 5 } : Account)] : List Account)) (by first | exact .h0 | exact .h1 | exact .h2 | exact .h3 | exact .h4 | exact .h5 | exact .h6 | exact .h7 | exact .h8 | exact .h9 | exact .h10 | exact .h11 | exact .h12 | exact .h13 | exact .h14)) rfl ⟨by decide, by show (1 : Int) < 2; decide⟩ ?_))
          refine WL.gT 168 rfl rfl rfl (WL.op rfl (opW.fieldAddr rfl ((hS.sl (v := v135) (xs := ([({ pa with coins := pa.coins - z[0].n } : Account), ({ (⟨z[0].n, ow, z[1].n⟩ : Account) with space := 5 } : Account)] : List Account)) (by first | exact .h0 | exact .h1 | exact .h2 | exact .h3 | exact .h4 | exact .h5 | exact .h6 | exact .h7 | exact .h8 | exact .h9 | exact .h10 | exact .h11 | exact .h12 | exact .h13 | exact .h14)).isP (i := 1) (by show 1 < 2; decide)) ?_))
          refine WL.gT 168 rfl rfl rfl (WL.op rfl (opW.loadV rfl (Ld.pt1 ((hS.sl (v := v135) (xs := ([({ pa with coins := pa.coins - z[0].n } : Account), ({ (⟨z[0].n, ow, z[1].n⟩ : Account) with space := 5 } : Account)] : List Account)) (by first | exact .h0 | exact .h1 | exact .h2 | exact .h3 | exact .h4 | exact .h5 | exact .h6 | exact .h7 | exact .h8 | exact .h9 | exact .h10 | exact .h11 | exact .h12 | exact .h13 | exact .h14)).isPt (i := 1) (by show 1 < 2; decide)) 33 (Account.at_space ({ (⟨z[0].n, ow, z[1].n⟩ : Account) with space := 5 } : Account))) ?_))
          refine WL.gT 168 rfl rfl rfl (WL.op rfl (opW.boolT (by rfl) (opW.eql rfl rfl ⟨rfl, rfl⟩) ?_))
          refine WL.gT 160 rfl rfl rfl (WL.op rfl (opW.pickT rfl rfl ?_))
          refine WL.gT 160 rfl rfl rfl (WL.op rfl (opW.moveB rfl ?_))
          refine WL.gT 175 rfl rfl rfl (WL.op rfl (opW.moveV (v := v135) rfl ?_))
          refine WL.gT 175 rfl rfl rfl (WL.op rfl (opW.idxV (k := .i64) (i := (1 : Int)) (v := v135) rfl (hS.sl (v := v135) (xs := ([({ pa with coins := pa.coins - z[0].n } : Account), ({ (⟨z[0].n, ow, z[1].n⟩ : Account) with space := 5 } : Account)] : List Account)) (by first | exact .h0 | exact .h1 | exact .h2 | exact .h3 | exact .h4 | exact .h5 | exact .h6 | exact .h7 | exact .h8 | exact .h9 | exact .h10 | exact .h11 | exact .h12 | exact .h13 | exact .h14)) rfl ⟨by decide, by show (1 : Int) < 2; decide⟩ ?_))
          refine WL.gT 175 rfl rfl rfl (WL.op rfl (opW.fieldAddr rfl ((hS.sl (v := v135) (xs := ([({ pa with coins := pa.coins - z[0].n } : Account), ({ (⟨z[0].n, ow, z[1].n⟩ : Account) with space := 5 } : Account)] : List Account)) (by first | exact .h0 | exact .h1 | exact .h2 | exact .h3 | exact .h4 | exact .h5 | exact .h6 | exact .h7 | exact .h8 | exact .h9 | exact .h10 | exact .h11 | exact .h12 | exact .h13 | exact .h14)).isP (i := 1) (by show 1 < 2; decide)) ?_))
          refine WL.gT 175 rfl rfl rfl (WL.op rfl (opW.loadV rfl (Ld.pt1 ((hS.sl (v := v135) (xs := ([({ pa with coins := pa.coins - z[0].n } : Account), ({ (⟨z[0].n, ow, z[1].n⟩ : Account) with space := 5 } : Account)] : List Account)) (by first | exact .h0 | exact .h1 | exact .h2 | exact .h3 | exact .h4 | exact .h5 | exact .h6 | exact .h7 | exact .h8 | exact .h9 | exact .h10 | exact .h11 | exact .h12 | exact .h13 | exact .h14)).isPt (i := 1) (by show 1 < 2; decide)) 0 (Account.at_coins ({ (⟨z[0].n, ow, z[1].n⟩ : Account) with space := 5 } : Account))) ?_))
          refine WL.gT 175 rfl rfl rfl (WL.op rfl (opW.moveI rfl ?_))
          refine WL.gT 175 rfl rfl rfl (WL.op rfl (opW.boolT (by simp) (opW.eql rfl rfl ⟨rfl, rfl⟩) ?_))
          refine WL.gT 160 rfl rfl rfl (WL.op rfl (opW.pickT rfl rfl ?_))
          refine WL.gT 157 rfl rfl rfl (WL.op rfl (opW.pickT rfl rfl ?_))
          refine WL.op rfl (opW.pickT rfl rfl ?_)
          refine WL.op rfl (opW.moveB rfl ?_)
          refine WL.gT 185 rfl rfl rfl (WL.op rfl (opW.call (lives14 _) rfl ?_))
          rintro _ w ⟨rfl, hw⟩; replace hS := hS.bel hw
          refine WL.op rfl (opW.pickT rfl rfl ?_)
          refine WL.op rfl (opW.assignB rfl ?_)
          refine WL.nil ?_
          refine thenQ_n (hK18 _ _ ?_)
          refine WC.ret ?_
          refine bodyQ_ret (.tmpB rfl .nil) ?_
          exact ⟨rfl, hS.old⟩

end Go.Fer
