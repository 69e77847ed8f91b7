/- New, Count, Push, Pop -/
import Derived.Test.YtppgmnljciakhaaC
set_option linter.all false
namespace Go.Fer
open Go Go.Proofs Go.RowKit

def newD (s t : SlV) (n : Nat) : LaD := ⟨s, t, List.replicate n ⟨⟨none, 0, 0⟩, 0, [], []⟩⟩
theorem newD_flat (n : Nat) : (List.replicate n (⟨⟨none, 0, 0⟩, 0, [], []⟩ : LnD)).flatMap lnE = List.replicate n (ownE (SlV.v ⟨none, 0, 0⟩) 32 ([] : List SlV)) := by
  induction n with
  | zero => rfl
  | succ n ih => rw [List.replicate_succ, List.flatMap_cons, ih, List.replicate_succ]; rfl
theorem St.nils {w0 w : World} {S : List Ent} (n : Nat) (hS : St w0 S w) : St w0 (List.replicate n (ownE (SlV.v ⟨none, 0, 0⟩) 32 ([] : List SlV)) ++ S) w := by
  induction n with
  | zero => exact hS
  | succ n ih => rw [List.replicate_succ]; exact ih.nilOwn _
theorem newD_ok (s t : SlV) {n : Nat} (h : n ≤ 64) : LaOk 0 (newD s t n) := by
  refine ⟨by simpa [newD] using h, fun L hL => ?_⟩
  obtain rfl := List.eq_of_mem_replicate hL
  exact ⟨⟨Nat.le_refl _, by simp, .inr ⟨rfl, rfl⟩, fun i h => absurd h (by simp)⟩, Nat.le_refl _, Nat.le_refl _⟩
theorem newD_C (s t : SlV) (n : Nat) : (newD s t n).C = List.replicate n [] := by simp [newD, LaD.C]

theorem new_ok (w0 : World) (i : Int) : Ret Try.prog 9 #[.int .i64 i] w0 (fun u w' => (inR (i - 1) 64 = false ∧ u = .tuple #[.pointer none, .int .i64 1] ∧ Bel w0 w') ∨ (inR (i - 1) 64 = true ∧ ∃ p d, u = .tuple #[.pointer (some ⟨p, 0, none⟩), .int .i64 0] ∧ LaOk 0 d ∧ d.C = List.replicate i.toNat [] ∧ d.lv.a.isNone = false ∧ NewE w0 w' (laE p d) ∧ Bel w0 w')) := by
  refine Ret.enter (args := [.int .i64 i]) Try.func9 rfl Try.ntmps9 Try.results9 rfl ?_
  have hS := St.start w0
  refine WC.seq (fun K1 hK1 => ?_)
  refine WC.region ?_
  refine WL.op rfl (opW.assignV rfl ?_)
  refine WL.op rfl (opW.assignI rfl ?_)
  refine WL.nil ?_
  refine thenQ_n (hK1 _ _ ?_)
  refine WC.seq (fun K2 hK2 => ?_)
  refine WC.seq (fun K3 hK3 => ?_)
  refine WC.region ?_
  refine WL.op rfl (opW.moveI rfl ?_)
  refine WL.op rfl (opW.lss rfl rfl ?_)
  refine WL.op rfl (opW.moveB rfl ?_)
  refine WL.gd _ 6 _ rfl rfl rfl rfl (fun hg7 => opW.moveI rfl ⟨rfl, Bel.refl _⟩) (fun w hw => ?_)
  replace hS := hS.bel hw
  refine WL.gd _ 6 _ rfl rfl rfl rfl (fun hg8 => opW.gtr (by first | exact gv_of rfl hg8 | rfl) rfl ⟨rfl, Bel.refl _⟩) (fun w hw => ?_)
  replace hS := hS.bel hw
  refine WL.op rfl (opW.pickOr rfl rfl (by first | rfl) ?_)
  refine WL.nil ?_
  refine thenQ_n (hK3 _ _ ?_)
  refine WC.cond _ rfl (fun hc0 => ?_) (fun hc0 => ?_)
  ·
    have hr0 := hc0
    try simp only [decide_eq_true_eq, decide_eq_false_iff_not, Bool.and_eq_true, Bool.or_eq_true, Bool.and_eq_false_iff, Bool.or_eq_false_iff, Bool.not_eq_true', Bool.not_eq_false', Int.not_lt, Int.not_le] at hc0
    refine WC.seq (fun K4 hK4 => ?_)
    refine WC.region ?_
    refine WL.op rfl (opW.assignV rfl ?_)
    refine WL.op rfl (opW.assignI rfl ?_)
    refine WL.nil ?_
    refine thenQ_n (hK4 _ _ ?_)
    refine WC.ret ?_
    refine thenQ_r ?_
    refine bodyQ_ret (.tmp (.tmpI rfl .nil)) ?_
    exact .inl ⟨by simp at hr0; simp [inR]; omega, rfl, hS.old⟩
  ·
    have hr0 := hc0
    try simp only [decide_eq_true_eq, decide_eq_false_iff_not, Bool.and_eq_true, Bool.or_eq_true, Bool.and_eq_false_iff, Bool.or_eq_false_iff, Bool.not_eq_true', Bool.not_eq_false', Int.not_lt, Int.not_le] at hc0
    have hb : 1 ≤ i ∧ i ≤ 64 := by simp at hr0; omega
    obtain ⟨n, rfl⟩ : ∃ n : Nat, i = (n : Int) := ⟨i.toNat, by omega⟩
    refine WC.skip ?_
    refine thenQ_n (hK2 _ _ ?_)
    refine WC.seq (fun K5 hK5 => ?_)
    refine WC.draw 8 (.look 0 (.look 2 (.fork 1 3 (.one 3 (.look 4 (.one 5 (.look 6 (.look 7 .nil))))) (.one 1 (.look 4 (.one 5 (.look 6 (.look 7 .nil)))))))) (by kernel_rfl) (fun _ _ _ h => h) (fun w1 hw1 => ?_)
    replace hS := hS.bel hw1
    have hS1 := hS
    have hT := St.start w1
    refine ML.look rfl rfl rfl (fun w hw => (by have hS := hS1.bel hw; exact opW.moveI rfl ⟨rfl, rfl⟩)) ?_
    refine ML.look rfl rfl rfl (fun w hw => (by have hS := hS1.bel hw; exact opW.moveI rfl ⟨rfl, rfl⟩)) ?_
    refine ML.fork rfl rfl rfl rfl ?_ ?_ 
    · refine opW.makeSl (α := Ring) (n := n) (⟨⟨none, 0, 0⟩, 0, 0⟩ : Ring) rfl hT rfl rfl (by omega) (by simp only [maxLen]; omega) ?_
      intro b11 w hw hT
      refine ⟨hT.old, ?_⟩
      have hS := hS1.merge hT
      try simp only [List.cons_append, List.nil_append] at hS
      refine ML.one rfl rfl rfl (opW.makeSl (α := I64) (n := n) ⟨0⟩ rfl hT rfl rfl (by omega) (by simp only [maxLen]; omega) ?_)
      intro b13 w hw hT
      refine ⟨hT.old, ?_⟩
      have hS := hS1.merge hT
      try simp only [List.cons_append, List.nil_append] at hS
      refine ML.look rfl rfl rfl (fun w hw => (by have hS := hS1.bel hw; exact opW.buildE (r := ((LaS.mk (⟨some ⟨b11, 0, none⟩, n, n⟩ : SlV) (⟨some ⟨b13, 0, none⟩, n, n⟩ : SlV)) : LaS)) (ps := LaS.parts ((LaS.mk (⟨some ⟨b11, 0, none⟩, n, n⟩ : SlV) (⟨some ⟨b13, 0, none⟩, n, n⟩ : SlV)) : LaS)) (LaS.enc_eq _) (by first | rfl | (simp only [enc_vset, enc_vz, Ring.enc_eq, Ring.parts, LaS.enc_eq, LaS.parts, RLa.enc_eq, RLa.parts, Act.enc_eq, Act.parts]; rfl)) (by (repeat' (first | exact trivial | refine And.intro ?_ ?_)) <;> first | rfl | exact Enc.size_eq _ | (simp; done)) ⟨rfl, rfl⟩)) ?_
      refine ML.one rfl rfl rfl (opW.boxA hT rfl ?_)
      intro b15 w hw hT
      refine ⟨hT.old, ?_⟩
      have hS := hS1.merge hT
      try simp only [List.cons_append, List.nil_append] at hS
      refine ML.look rfl rfl rfl (fun w hw => (by have hS := hS1.bel hw; exact opW.assignV (v := .pointer (some ⟨b15, 0, none⟩)) rfl ⟨rfl, rfl⟩)) ?_
      refine ML.look rfl rfl rfl (fun w hw => (by have hS := hS1.bel hw; exact opW.assignI rfl ⟨rfl, rfl⟩)) ?_
      refine ML.nil ?_
      refine thenQ_n (hK5 _ _ ?_)
      refine WC.ret ?_
      refine bodyQ_ret (.tmpV (v := .pointer (some ⟨b15, 0, none⟩)) rfl (.tmpI rfl .nil)) ?_
      refine .inr ⟨by simp [inR]; omega, b15, newD (⟨some ⟨b11, 0, none⟩, n, n⟩ : SlV) (⟨some ⟨b13, 0, none⟩, n, n⟩ : SlV) n, rfl, newD_ok _ _ (by omega), newD_C _ _ _, rfl, ?_, hS.old⟩
      have h1 : St w0 (blkE b15 (Enc.enc (LaS.mk (⟨some ⟨b11, 0, none⟩, n, n⟩ : SlV) (⟨some ⟨b13, 0, none⟩, n, n⟩ : SlV))) 50 :: ownE (SlV.v (⟨some ⟨b11, 0, none⟩, n, n⟩ : SlV)) 57 (List.replicate n (⟨⟨none, 0, 0⟩, 0, 0⟩ : Ring)) :: ownE (SlV.v (⟨some ⟨b13, 0, none⟩, n, n⟩ : SlV)) 3 (List.replicate n (⟨0⟩ : I64)) :: []) w :=
        hS.perm (by first | exact List.Perm.refl _ | exact .cons _ (List.Perm.swap _ _ _))
      have h2 := (h1.nils n).perm (List.perm_append_comm)
      have h3 : St w0 (blkE b15 (Enc.enc (LaS.mk (⟨some ⟨b11, 0, none⟩, n, n⟩ : SlV) (⟨some ⟨b13, 0, none⟩, n, n⟩ : SlV))) 50 :: ownE (SlV.v (⟨some ⟨b11, 0, none⟩, n, n⟩ : SlV)) 57 ((newD (⟨some ⟨b11, 0, none⟩, n, n⟩ : SlV) (⟨some ⟨b13, 0, none⟩, n, n⟩ : SlV) n).D.map LnD.r) :: ownE (SlV.v (⟨some ⟨b13, 0, none⟩, n, n⟩ : SlV)) 3 ((newD (⟨some ⟨b11, 0, none⟩, n, n⟩ : SlV) (⟨some ⟨b13, 0, none⟩, n, n⟩ : SlV) n).D.map cI) :: ((newD (⟨some ⟨b11, 0, none⟩, n, n⟩ : SlV) (⟨some ⟨b13, 0, none⟩, n, n⟩ : SlV) n).D.flatMap lnE ++ [])) w := by
        have e1 : (newD (⟨some ⟨b11, 0, none⟩, n, n⟩ : SlV) (⟨some ⟨b13, 0, none⟩, n, n⟩ : SlV) n).D.map LnD.r = List.replicate n (⟨⟨none, 0, 0⟩, 0, 0⟩ : Ring) := List.map_replicate
        have e2 : (newD (⟨some ⟨b11, 0, none⟩, n, n⟩ : SlV) (⟨some ⟨b13, 0, none⟩, n, n⟩ : SlV) n).D.map cI = List.replicate n (⟨0⟩ : I64) := List.map_replicate
        rw [e1, e2, show (newD (⟨some ⟨b11, 0, none⟩, n, n⟩ : SlV) (⟨some ⟨b13, 0, none⟩, n, n⟩ : SlV) n).D.flatMap lnE = _ from newD_flat n, List.append_nil]
        exact h2
      exact (h3.laClose (d := newD (⟨some ⟨b11, 0, none⟩, n, n⟩ : SlV) (⟨some ⟨b13, 0, none⟩, n, n⟩ : SlV) n)).takeE .here
    · refine opW.makeSl (α := I64) (n := n) ⟨0⟩ rfl hT rfl rfl (by omega) (by simp only [maxLen]; omega) ?_
      intro b13 w hw hT
      refine ⟨hT.old, ?_⟩
      have hS := hS1.merge hT
      try simp only [List.cons_append, List.nil_append] at hS
      refine ML.one rfl rfl rfl (opW.makeSl (α := Ring) (n := n) (⟨⟨none, 0, 0⟩, 0, 0⟩ : Ring) rfl hT rfl rfl (by omega) (by simp only [maxLen]; omega) ?_)
      intro b11 w hw hT
      refine ⟨hT.old, ?_⟩
      have hS := hS1.merge hT
      try simp only [List.cons_append, List.nil_append] at hS
      refine ML.look rfl rfl rfl (fun w hw => (by have hS := hS1.bel hw; exact opW.buildE (r := ((LaS.mk (⟨some ⟨b11, 0, none⟩, n, n⟩ : SlV) (⟨some ⟨b13, 0, none⟩, n, n⟩ : SlV)) : LaS)) (ps := LaS.parts ((LaS.mk (⟨some ⟨b11, 0, none⟩, n, n⟩ : SlV) (⟨some ⟨b13, 0, none⟩, n, n⟩ : SlV)) : LaS)) (LaS.enc_eq _) (by first | rfl | (simp only [enc_vset, enc_vz, Ring.enc_eq, Ring.parts, LaS.enc_eq, LaS.parts, RLa.enc_eq, RLa.parts, Act.enc_eq, Act.parts]; rfl)) (by (repeat' (first | exact trivial | refine And.intro ?_ ?_)) <;> first | rfl | exact Enc.size_eq _ | (simp; done)) ⟨rfl, rfl⟩)) ?_
      refine ML.one rfl rfl rfl (opW.boxA hT rfl ?_)
      intro b15 w hw hT
      refine ⟨hT.old, ?_⟩
      have hS := hS1.merge hT
      try simp only [List.cons_append, List.nil_append] at hS
      refine ML.look rfl rfl rfl (fun w hw => (by have hS := hS1.bel hw; exact opW.assignV (v := .pointer (some ⟨b15, 0, none⟩)) rfl ⟨rfl, rfl⟩)) ?_
      refine ML.look rfl rfl rfl (fun w hw => (by have hS := hS1.bel hw; exact opW.assignI rfl ⟨rfl, rfl⟩)) ?_
      refine ML.nil ?_
      refine thenQ_n (hK5 _ _ ?_)
      refine WC.ret ?_
      refine bodyQ_ret (.tmpV (v := .pointer (some ⟨b15, 0, none⟩)) rfl (.tmpI rfl .nil)) ?_
      refine .inr ⟨by simp [inR]; omega, b15, newD (⟨some ⟨b11, 0, none⟩, n, n⟩ : SlV) (⟨some ⟨b13, 0, none⟩, n, n⟩ : SlV) n, rfl, newD_ok _ _ (by omega), newD_C _ _ _, rfl, ?_, hS.old⟩
      have h1 : St w0 (blkE b15 (Enc.enc (LaS.mk (⟨some ⟨b11, 0, none⟩, n, n⟩ : SlV) (⟨some ⟨b13, 0, none⟩, n, n⟩ : SlV))) 50 :: ownE (SlV.v (⟨some ⟨b11, 0, none⟩, n, n⟩ : SlV)) 57 (List.replicate n (⟨⟨none, 0, 0⟩, 0, 0⟩ : Ring)) :: ownE (SlV.v (⟨some ⟨b13, 0, none⟩, n, n⟩ : SlV)) 3 (List.replicate n (⟨0⟩ : I64)) :: []) w :=
        hS.perm (by first | exact List.Perm.refl _ | exact .cons _ (List.Perm.swap _ _ _))
      have h2 := (h1.nils n).perm (List.perm_append_comm)
      have h3 : St w0 (blkE b15 (Enc.enc (LaS.mk (⟨some ⟨b11, 0, none⟩, n, n⟩ : SlV) (⟨some ⟨b13, 0, none⟩, n, n⟩ : SlV))) 50 :: ownE (SlV.v (⟨some ⟨b11, 0, none⟩, n, n⟩ : SlV)) 57 ((newD (⟨some ⟨b11, 0, none⟩, n, n⟩ : SlV) (⟨some ⟨b13, 0, none⟩, n, n⟩ : SlV) n).D.map LnD.r) :: ownE (SlV.v (⟨some ⟨b13, 0, none⟩, n, n⟩ : SlV)) 3 ((newD (⟨some ⟨b11, 0, none⟩, n, n⟩ : SlV) (⟨some ⟨b13, 0, none⟩, n, n⟩ : SlV) n).D.map cI) :: ((newD (⟨some ⟨b11, 0, none⟩, n, n⟩ : SlV) (⟨some ⟨b13, 0, none⟩, n, n⟩ : SlV) n).D.flatMap lnE ++ [])) w := by
        have e1 : (newD (⟨some ⟨b11, 0, none⟩, n, n⟩ : SlV) (⟨some ⟨b13, 0, none⟩, n, n⟩ : SlV) n).D.map LnD.r = List.replicate n (⟨⟨none, 0, 0⟩, 0, 0⟩ : Ring) := List.map_replicate
        have e2 : (newD (⟨some ⟨b11, 0, none⟩, n, n⟩ : SlV) (⟨some ⟨b13, 0, none⟩, n, n⟩ : SlV) n).D.map cI = List.replicate n (⟨0⟩ : I64) := List.map_replicate
        rw [e1, e2, show (newD (⟨some ⟨b11, 0, none⟩, n, n⟩ : SlV) (⟨some ⟨b13, 0, none⟩, n, n⟩ : SlV) n).D.flatMap lnE = _ from newD_flat n, List.append_nil]
        exact h2
      exact (h3.laClose (d := newD (⟨some ⟨b11, 0, none⟩, n, n⟩ : SlV) (⟨some ⟨b13, 0, none⟩, n, n⟩ : SlV) n)).takeE .here

theorem count_ok (w0 : World) (p : Nat) (d : LaD) (i : Int) (ha : LaAt w0 p d) : Ret Try.prog 18 #[.pointer (some ⟨p, 0, none⟩), .int .i64 i] w0 (fun u w' => u = .int .i64 (cntC d.C i : Nat) ∧ Bel w0 w') := by
  refine Ret.enter (args := [.pointer (some ⟨p, 0, none⟩), .int .i64 i]) Try.func18 rfl Try.ntmps18 Try.results18 rfl ?_
  have hS := St.start w0
  refine WC.seq (fun K1 hK1 => ?_)
  refine WC.region ?_
  refine WL.op rfl (opW.assignI rfl ?_)
  refine WL.nil ?_
  refine thenQ_n (hK1 _ _ ?_)
  refine WC.seq (fun K2 hK2 => ?_)
  refine WC.seq (fun K3 hK3 => ?_)
  refine WC.region ?_
  refine WL.op rfl (opW.moveV (v := .pointer (some ⟨p, 0, none⟩)) rfl ?_)
  refine WL.op rfl (opW.moveI rfl ?_)
  refine WL.op rfl (opW.call (has_ok _ p (LaS.mk d.lv d.cv) (d.D.map LnD.r) i (ha.bel hS.old).b (ha.bel hS.old).l) rfl ?_)
  rintro _ w ⟨rfl, hw⟩; replace hS := hS.bel hw; rw [List.length_map]
  refine WL.op rfl (opW.not rfl ?_)
  refine WL.nil ?_
  refine thenQ_n (hK3 _ _ ?_)
  refine WC.cond _ rfl (fun hc0 => ?_) (fun hc0 => ?_)
  ·
    have hr0 := hc0
    try simp only [decide_eq_true_eq, decide_eq_false_iff_not, Bool.and_eq_true, Bool.or_eq_true, Bool.and_eq_false_iff, Bool.or_eq_false_iff, Bool.not_eq_true', Bool.not_eq_false', Int.not_lt, Int.not_le] at hc0
    refine WC.seq (fun K4 hK4 => ?_)
    refine WC.region ?_
    refine WL.op rfl (opW.assignI rfl ?_)
    refine WL.nil ?_
    refine thenQ_n (hK4 _ _ ?_)
    refine WC.ret ?_
    refine thenQ_r ?_
    refine bodyQ_ret (.tmpI rfl .nil) ?_
    have hi : inR i d.D.length = false := by simpa using hr0
    rw [cntC, laneC_no (by rw [d.C_len]; exact hi)]
    exact ⟨rfl, hS.old⟩
  ·
    have hr0 := hc0
    try simp only [decide_eq_true_eq, decide_eq_false_iff_not, Bool.and_eq_true, Bool.or_eq_true, Bool.and_eq_false_iff, Bool.or_eq_false_iff, Bool.not_eq_true', Bool.not_eq_false', Int.not_lt, Int.not_le] at hc0
    have hi : inR i d.D.length = true := by simpa using hr0
    obtain ⟨k, rfl, hk⟩ := inR_at hi
    have hkc : k < (d.D.map cI).length := by rw [List.length_map]; exact hk
    have hgk : (d.D.map cI)[k] = cI d.D[k] := List.getElem_map ..
    refine WC.skip ?_
    refine thenQ_n (hK2 _ _ ?_)
    refine WC.seq (fun K5 hK5 => ?_)
    refine WC.region ?_
    refine WL.op rfl (opW.moveV (v := .pointer (some ⟨p, 0, none⟩)) rfl ?_)
    refine WL.op rfl (opW.nilCheckB rfl ?_)
    refine WL.op rfl (opW.fieldAddrB rfl ?_)
    refine WL.op rfl (opW.loadV rfl ((ha.bel hS.old).b.at1 (LaS.at_count _)) ?_)
    refine WL.op rfl (opW.moveI rfl ?_)
    refine WL.op rfl (opW.idxV rfl ((ha.bel hS.old).c) rfl (by omega) ?_)
    refine WL.op rfl (opW.loadV rfl (Ld.pt10 ((ha.bel hS.old).c.isPt hkc) (by rw [hgk]; rfl : (Enc.enc ((d.D.map cI)[k]))[0]? = some (.int .i64 (cnt d.D[k].q : Int)))) ?_)
    refine WL.op rfl (opW.assignI rfl ?_)
    refine WL.nil ?_
    refine thenQ_n (hK5 _ _ ?_)
    refine WC.ret ?_
    refine bodyQ_ret (.tmpI rfl .nil) ?_
    rw [cntC_at d hk]
    exact ⟨rfl, hS.old⟩

set_option maxRecDepth 20000 in
set_option maxHeartbeats 4000000 in
theorem popL_ok (wb w0 : World) (S : List Ent) (p : Nat) (d : LaD) (N : Nat) (i : Int) (hS0 : St wb (laE p d :: S) w0) (hok : LaOk N d) (hN : N ≤ 1000) : Ret Try.prog 11 #[.pointer (some ⟨p, 0, none⟩), .int .i64 i] w0 (fun u w' => ∃ (b : Bt) (d' : LaD), u = .tuple #[b.1.v, .bool (!(laneC d.C i).isEmpty)] ∧ b.2 = (laneC d.C i).headD [] ∧ d'.C = popR d.C i ∧ d'.lv = d.lv ∧ LaOk N d' ∧ St wb (ownE b.1.v 3 b.2 :: laE p d' :: S) w') := by
  refine Ret.enter (args := [.pointer (some ⟨p, 0, none⟩), .int .i64 i]) Try.func11 rfl Try.ntmps11 Try.results11 rfl ?_
  have hS := St.start w0
  replace hS := hS0.laOpen
  refine WC.seq (fun K1 hK1 => ?_)
  refine WC.region ?_
  refine WL.op rfl (opW.assignV (v := .slice none 0 0) rfl ?_)
  refine WL.op rfl (opW.assignB rfl ?_)
  refine WL.nil ?_
  refine thenQ_n (hK1 _ _ ?_)
  refine WC.seq (fun K2 hK2 => ?_)
  refine WC.seq (fun K3 hK3 => ?_)
  refine WC.region ?_
  refine WL.op rfl (opW.moveV (v := .pointer (some ⟨p, 0, none⟩)) rfl ?_)
  refine WL.op rfl (opW.moveI rfl ?_)
  refine WL.op rfl (opW.call (has_ok _ p (LaS.mk d.lv d.cv) (d.D.map LnD.r) i (hS.pt (by first | exact .h0 | exact .h1 | exact .h2 | exact .h3 | exact .h4 | exact .h5 | exact .h6 | exact .h7 | exact .h8 | exact .h9 | exact .h10 | exact .h11 | exact .h12 | exact .h13 | exact .h14)) (hS.sl (v := d.lv.v) (xs := (d.D.map LnD.r)) (by first | exact .h0 | exact .h1 | exact .h2 | exact .h3 | exact .h4 | exact .h5 | exact .h6 | exact .h7 | exact .h8 | exact .h9 | exact .h10 | exact .h11 | exact .h12 | exact .h13 | exact .h14))) rfl ?_)
  rintro _ w ⟨rfl, hw⟩; replace hS := hS.bel hw; rw [List.length_map]
  refine WL.op rfl (opW.not rfl ?_)
  refine WL.nil ?_
  refine thenQ_n (hK3 _ _ ?_)
  refine WC.cond _ rfl (fun hc0 => ?_) (fun hc0 => ?_)
  ·
    have hr0 := hc0
    try simp only [decide_eq_true_eq, decide_eq_false_iff_not, Bool.and_eq_true, Bool.or_eq_true, Bool.and_eq_false_iff, Bool.or_eq_false_iff, Bool.not_eq_true', Bool.not_eq_false', Int.not_lt, Int.not_le] at hc0
    refine WC.seq (fun K4 hK4 => ?_)
    refine WC.region ?_
    refine WL.op rfl (opW.assignV (v := .slice none 0 0) rfl ?_)
    refine WL.op rfl (opW.assignB rfl ?_)
    refine WL.nil ?_
    refine thenQ_n (hK4 _ _ ?_)
    refine WC.ret ?_
    refine thenQ_r ?_
    refine bodyQ_ret (.tmpV (v := .slice none 0 0) rfl (.tmpB rfl .nil)) ?_
    have hi : inR i d.C.length = false := by rw [d.C_len]; simpa using hr0
    rw [laneC_no hi]
    exact ⟨nb, d, rfl, rfl, by rw [popR, hi]; rfl, rfl, hok, hS.laClose.nilOwn 3⟩
  ·
    have hr0 := hc0
    try simp only [decide_eq_true_eq, decide_eq_false_iff_not, Bool.and_eq_true, Bool.or_eq_true, Bool.and_eq_false_iff, Bool.or_eq_false_iff, Bool.not_eq_true', Bool.not_eq_false', Int.not_lt, Int.not_le] at hc0
    have hi : inR i d.D.length = true := by simpa using hr0
    obtain ⟨k, rfl, hk⟩ := inR_at hi
    obtain ⟨L, hL⟩ : ∃ L, d.D[k] = L := ⟨_, rfl⟩
    have hat := hok.at hk
    rw [hL] at hat
    obtain ⟨hokL, hqL, hcL⟩ := hat
    have hkr : k < (d.D.map LnD.r).length := by rw [List.length_map]; exact hk
    have hgr : (d.D.map LnD.r)[k] = L.r := by rw [List.getElem_map, hL]
    have hkc : k < (d.D.map cI).length := by rw [List.length_map]; exact hk
    have hgk : (d.D.map cI)[k] = cI L := by rw [List.getElem_map, hL]
    have hlc : laneC d.C (k : Int) = L.q.map Prod.snd := by rw [d.laneC_at hk, hL]
    replace hS : St wb (blkE p (Enc.enc (LaS.mk d.lv d.cv)) 50 :: ownE d.lv.v 57 (d.D.map LnD.r) :: ownE d.cv.v 3 (d.D.map cI) :: ownE d.D[k].l.v 32 d.D[k].cs :: (bE d.D[k].q ++ (restE d.D k ++ S))) _ := hS.laneOut [_, _, _] hk
    rw [hL] at hS
    refine WC.skip ?_
    refine thenQ_n (hK2 _ _ ?_)
    refine WC.seq (fun K5 hK5 => ?_)
    refine WC.region ?_
    refine WL.op rfl (opW.moveV (v := .pointer (some ⟨p, 0, none⟩)) rfl ?_)
    refine WL.op rfl (opW.nilCheckB rfl ?_)
    refine WL.op rfl (opW.fieldAddrB rfl ?_)
    refine WL.op rfl (opW.loadV rfl (hS.ld1 (by first | exact .h0 | exact .h1 | exact .h2 | exact .h3 | exact .h4 | exact .h5 | exact .h6 | exact .h7 | exact .h8 | exact .h9 | exact .h10 | exact .h11 | exact .h12 | exact .h13 | exact .h14) (LaS.at_lanes (LaS.mk d.lv d.cv))) ?_)
    refine WL.op rfl (opW.moveI rfl ?_)
    refine WL.op rfl (opW.idxV rfl (hS.sl (v := d.lv.v) (xs := (d.D.map LnD.r)) (by first | exact .h0 | exact .h1 | exact .h2 | exact .h3 | exact .h4 | exact .h5 | exact .h6 | exact .h7 | exact .h8 | exact .h9 | exact .h10 | exact .h11 | exact .h12 | exact .h13 | exact .h14)) rfl (by omega) ?_)
    refine WL.op rfl (opW.call (pop_ok_ wb _ _ d.lv.v (d.D.map LnD.r) k L hkr hgr hokL ((hS.pick (e := ownE L.l.v 32 L.cs) (by first | exact .h0 | exact .h1 | exact .h2 | exact .h3 | exact .h4 | exact .h5 | exact .h6 | exact .h7 | exact .h8 | exact .h9 | exact .h10 | exact .h11 | exact .h12 | exact .h13 | exact .h14)).pick (e := ownE d.lv.v 57 (d.D.map LnD.r)) (by first | exact .h0 | exact .h1 | exact .h2 | exact .h3 | exact .h4 | exact .h5 | exact .h6 | exact .h7 | exact .h8 | exact .h9 | exact .h10 | exact .h11 | exact .h12 | exact .h13 | exact .h14))) rfl ?_)
    rintro v17 w ⟨L', hq', hok', h17, hS⟩
    replace h17 : v17 = .tuple #[(L.q.headD nb).1.v, .bool (!L.q.isEmpty)] := h17
    subst h17
    refine WL.op rfl (opW.moveV (v := .tuple #[(L.q.headD nb).1.v, .bool (!L.q.isEmpty)]) rfl ?_)
    refine WL.op rfl (opW.extract rfl rfl ?_)
    refine WL.op rfl (opW.extract rfl rfl ?_)
    refine WL.op rfl (opW.assignV (v := (L.q.headD nb).1.v) rfl ?_)
    refine WL.op rfl (opW.assignB rfl ?_)
    refine WL.nil ?_
    refine thenQ_n (hK5 _ _ ?_)
    refine WC.seq (fun K6 hK6 => ?_)
    refine WC.region ?_
    replace hS := hS.popB [_, _, _, _]
    rw [← hq'] at hS
    have hct := cnt_tail L.q
    rw [← hq'] at hct
    refine WL.op rfl (opW.moveV (v := .pointer (some ⟨p, 0, none⟩)) rfl ?_)
    refine WL.op rfl (opW.nilCheckB rfl ?_)
    refine WL.op rfl (opW.fieldAddrB rfl ?_)
    refine WL.op rfl (opW.loadV rfl (hS.ld1 (by first | exact .h0 | exact .h1 | exact .h2 | exact .h3 | exact .h4 | exact .h5 | exact .h6 | exact .h7 | exact .h8 | exact .h9 | exact .h10 | exact .h11 | exact .h12 | exact .h13 | exact .h14) (LaS.at_count (LaS.mk d.lv d.cv))) ?_)
    refine WL.op rfl (opW.moveI rfl ?_)
    refine WL.op rfl (opW.idxV rfl (hS.sl (v := d.cv.v) (xs := (d.D.map cI)) (by first | exact .h0 | exact .h1 | exact .h2 | exact .h3 | exact .h4 | exact .h5 | exact .h6 | exact .h7 | exact .h8 | exact .h9 | exact .h10 | exact .h11 | exact .h12 | exact .h13 | exact .h14)) rfl (by omega) ?_)
    refine WL.op rfl (opW.loadV rfl (Ld.pt10 ((hS.sl (v := d.cv.v) (xs := (d.D.map cI)) (by first | exact .h0 | exact .h1 | exact .h2 | exact .h3 | exact .h4 | exact .h5 | exact .h6 | exact .h7 | exact .h8 | exact .h9 | exact .h10 | exact .h11 | exact .h12 | exact .h13 | exact .h14)).isPt hkc) (by rw [hgk]; rfl : (Enc.enc ((d.D.map cI)[k]))[0]? = some (.int .i64 (cnt L.q : Int)))) ?_)
    refine WL.op rfl (opW.moveV (v := (L.q.headD nb).1.v) rfl ?_)
    refine WL.op rfl (opW.lenV rfl (hS.sl (v := (L.q.headD nb).1.v) (xs := (L.q.headD nb).2) (by first | exact .h0 | exact .h1 | exact .h2 | exact .h3 | exact .h4 | exact .h5 | exact .h6 | exact .h7 | exact .h8 | exact .h9 | exact .h10 | exact .h11 | exact .h12 | exact .h13 | exact .h14)) ?_)
    refine WL.op rfl (opW.sub rfl rfl ((wrap_i64 (by omega)).trans (by omega : _ = (cnt L'.q : Int))) ?_)
    refine WL.op rfl (opW.idxV rfl (hS.sl (v := d.cv.v) (xs := (d.D.map cI)) (by first | exact .h0 | exact .h1 | exact .h2 | exact .h3 | exact .h4 | exact .h5 | exact .h6 | exact .h7 | exact .h8 | exact .h9 | exact .h10 | exact .h11 | exact .h12 | exact .h13 | exact .h14)) rfl (by omega) ?_)
    refine WL.op0 (opW.storeOwn (v := d.cv.v) (u := .int .i64 (cnt L'.q : Int)) (sz := 1) (xs := (d.D.map cI)) (i := k) (off := 0) (y' := cI L') hS (by first | exact .h0 | exact .h1 | exact .h2 | exact .h3 | exact .h4 | exact .h5 | exact .h6 | exact .h7 | exact .h8 | exact .h9 | exact .h10 | exact .h11 | exact .h12 | exact .h13 | exact .h14) hkc (ptrAdd_zero d.cv.v k (Enc.sz I64)).symm rfl (by rfl) (by decide) (one_int _ _) (spl_all (by rfl)) ?_)
    intro w hS; replace hS := hS _ (by first | exact .h0 | exact .h1 | exact .h2 | exact .h3 | exact .h4 | exact .h5 | exact .h6 | exact .h7 | exact .h8 | exact .h9 | exact .h10 | exact .h11 | exact .h12 | exact .h13 | exact .h14)
    refine WL.nil ?_
    refine thenQ_n (hK6 _ _ ?_)
    refine WC.seq (fun K7 hK7 => ?_)
    refine WC.region ?_
    refine WL.op rfl (opW.moveV (v := (L.q.headD nb).1.v) rfl ?_)
    refine WL.op rfl (opW.moveB rfl ?_)
    refine WL.op rfl (opW.assignV (v := (L.q.headD nb).1.v) rfl ?_)
    refine WL.op rfl (opW.assignB rfl ?_)
    refine WL.nil ?_
    refine thenQ_n (hK7 _ _ ?_)
    refine WC.ret ?_
    refine bodyQ_ret (.tmpV (v := (L.q.headD nb).1.v) rfl (.tmpB rfl .nil)) ?_
    rw [hlc]
    refine ⟨(L.q.headD nb), ⟨d.lv, d.cv, d.D.set k L'⟩, by cases L.q <;> rfl, (headD_snd _).symm, ?_, rfl, hok.set (Nat.le_refl _) hok' (by rw [hq', List.length_tail]; omega) (by omega), hS.laBack hk⟩
    rw [d.C_set, popR, inR_nat (by rw [d.C_len]; exact hk), if_pos rfl, hlc, Int.toNat_natCast, hq', List.map_tail]

set_option maxRecDepth 20000 in
set_option maxHeartbeats 4000000 in
theorem pushL_ok (wb w0 : World) (S : List Ent) (p : Nat) (d : LaD) (N : Nat) (i : Int) (v : Value) (xs : List I64) (hS0 : St wb (laE p d :: S) w0) (hok : LaOk N d) (hN : N ≤ 900) (hne : d.lv.a.isNone = false) (hl : ∀ w, St wb S w → SlR w v xs) : Ret Try.prog 15 #[.pointer (some ⟨p, 0, none⟩), .int .i64 i, v] w0 (fun u w' => ∃ d' : LaD, u = .int .i64 (if okB d.C i xs then 0 else 1) ∧ d'.C = pushR d.C i xs ∧ d'.lv = d.lv ∧ LaOk (N + 1) d' ∧ St wb (laE p d' :: S) w') := by
  refine Ret.enter (args := [.pointer (some ⟨p, 0, none⟩), .int .i64 i, v]) Try.func15 rfl Try.ntmps15 Try.results15 rfl ?_
  have hS := St.start w0
  replace hS := hS0.laOpen
  refine WC.seq (fun K1 hK1 => ?_)
  refine WC.region ?_
  refine WL.op rfl (opW.assignI rfl ?_)
  refine WL.nil ?_
  refine thenQ_n (hK1 _ _ ?_)
  refine WC.seq (fun K2 hK2 => ?_)
  refine WC.block ?_
  refine WC.seq (fun K3 hK3 => ?_)
  refine WC.region ?_
  refine WL.op rfl (opW.moveV (v := .pointer (some ⟨p, 0, none⟩)) rfl ?_)
  refine WL.op rfl (opW.eqlP rfl rfl ?_)
  refine WL.op rfl (opW.moveB rfl ?_)
  refine WL.gT 10 rfl rfl rfl (WL.op rfl (opW.moveV (v := .pointer (some ⟨p, 0, none⟩)) rfl ?_))
  refine WL.gT 10 rfl rfl rfl (WL.op rfl (opW.nilCheckB rfl ?_))
  refine WL.gT 10 rfl rfl rfl (WL.op rfl (opW.fieldAddrB rfl ?_))
  refine WL.gT 10 rfl rfl rfl (WL.op rfl (opW.loadV rfl (hS.ld1 (by first | exact .h0 | exact .h1 | exact .h2 | exact .h3 | exact .h4 | exact .h5 | exact .h6 | exact .h7 | exact .h8 | exact .h9 | exact .h10 | exact .h11 | exact .h12 | exact .h13 | exact .h14) (LaS.at_lanes (LaS.mk d.lv d.cv))) ?_))
  refine WL.gT 10 rfl rfl rfl (WL.op rfl (opW.eqlNil rfl rfl ?_))
  refine WL.op rfl (opW.pickT rfl rfl ?_)
  refine WL.op rfl (opW.assignB rfl ?_)
  refine WL.nil ?_
  refine thenQ_n (hK3 _ _ ?_)
  refine WC.cond _ rfl (fun hc0 => ?_) (fun hc0 => ?_)
  ·
    have hr0 := hc0
    try simp only [decide_eq_true_eq, decide_eq_false_iff_not, Bool.and_eq_true, Bool.or_eq_true, Bool.and_eq_false_iff, Bool.or_eq_false_iff, Bool.not_eq_true', Bool.not_eq_false', Int.not_lt, Int.not_le] at hc0
    rw [hne] at hr0; cases hr0
  ·
    have hr0 := hc0
    try simp only [decide_eq_true_eq, decide_eq_false_iff_not, Bool.and_eq_true, Bool.or_eq_true, Bool.and_eq_false_iff, Bool.or_eq_false_iff, Bool.not_eq_true', Bool.not_eq_false', Int.not_lt, Int.not_le] at hc0
    refine WC.seq (fun K4 hK4 => ?_)
    refine WC.region ?_
    refine WL.op rfl (opW.moveV (v := .pointer (some ⟨p, 0, none⟩)) rfl ?_)
    refine WL.op rfl (opW.moveI rfl ?_)
    refine WL.op rfl (opW.call (has_ok _ p (LaS.mk d.lv d.cv) (d.D.map LnD.r) i (hS.pt (by first | exact .h0 | exact .h1 | exact .h2 | exact .h3 | exact .h4 | exact .h5 | exact .h6 | exact .h7 | exact .h8 | exact .h9 | exact .h10 | exact .h11 | exact .h12 | exact .h13 | exact .h14)) (hS.sl (v := d.lv.v) (xs := (d.D.map LnD.r)) (by first | exact .h0 | exact .h1 | exact .h2 | exact .h3 | exact .h4 | exact .h5 | exact .h6 | exact .h7 | exact .h8 | exact .h9 | exact .h10 | exact .h11 | exact .h12 | exact .h13 | exact .h14))) rfl ?_)
    rintro _ w ⟨rfl, hw⟩; replace hS := hS.bel hw; rw [List.length_map]
    refine WL.op rfl (opW.not rfl ?_)
    refine WL.op rfl (opW.moveB rfl ?_)
    refine WL.gd _ 22 _ rfl rfl rfl rfl (fun hg23 => opW.moveV (v := v) rfl ⟨rfl, Bel.refl _⟩) (fun w hw => ?_)
    replace hS := hS.bel hw
    refine WL.gd _ 22 _ rfl rfl rfl rfl (fun hg24 => opW.lenV (by first | exact gv_of rfl hg24 | rfl) ((hl _ (hS.drop1.drop1.drop1.sub (List.sublist_append_right _ _)))) ⟨rfl, Bel.refl _⟩) (fun w hw => ?_)
    replace hS := hS.bel hw
    refine WL.gd _ 22 _ rfl rfl rfl rfl (fun hg25 => opW.lss (by first | exact gv_of rfl hg25 | rfl) rfl ⟨rfl, Bel.refl _⟩) (fun w hw => ?_)
    replace hS := hS.bel hw
    refine WL.op rfl (opW.pickOr rfl rfl (by first | rfl) ?_)
    refine WL.op rfl (opW.moveB rfl ?_)
    refine WL.gd _ 27 _ rfl rfl rfl rfl (fun hg28 => opW.moveV (v := v) rfl ⟨rfl, Bel.refl _⟩) (fun w hw => ?_)
    replace hS := hS.bel hw
    refine WL.gd _ 27 _ rfl rfl rfl rfl (fun hg29 => opW.lenV (by first | exact gv_of rfl hg29 | rfl) ((hl _ (hS.drop1.drop1.drop1.sub (List.sublist_append_right _ _)))) ⟨rfl, Bel.refl _⟩) (fun w hw => ?_)
    replace hS := hS.bel hw
    refine WL.gd _ 27 _ rfl rfl rfl rfl (fun hg30 => opW.gtr (by first | exact gv_of rfl hg30 | rfl) rfl ⟨rfl, Bel.refl _⟩) (fun w hw => ?_)
    replace hS := hS.bel hw
    refine WL.op rfl (opW.pickOr rfl rfl (by first | rfl) ?_)
    refine WL.op rfl (opW.assignB rfl ?_)
    refine WL.nil ?_
    refine thenQ_n (hK4 _ _ ?_)
    refine WC.cond _ rfl (fun hc1 => ?_) (fun hc1 => ?_)
    ·
      have hr1 := hc1
      try simp only [decide_eq_true_eq, decide_eq_false_iff_not, Bool.and_eq_true, Bool.or_eq_true, Bool.and_eq_false_iff, Bool.or_eq_false_iff, Bool.not_eq_true', Bool.not_eq_false', Int.not_lt, Int.not_le] at hc1
      refine WC.seq (fun K5 hK5 => ?_)
      refine WC.region ?_
      refine WL.op rfl (opW.assignI rfl ?_)
      refine WL.nil ?_
      refine thenQ_n (hK5 _ _ ?_)
      refine WC.ret ?_
      refine blockQ_r ?_
      refine thenQ_r ?_
      refine bodyQ_ret (.tmpI rfl .nil) ?_
      have hb : okB d.C i xs = false := by
        cases hI : inR i d.D.length
        · simp [okB, d.C_len, hI]
        · simp [hI] at hr1; simp [okB, d.C_len, hI]; omega
      rw [hb, pushR, hb]
      exact ⟨d, rfl, rfl, rfl, hok.up (Nat.le_succ _), hS.laClose⟩
    ·
      have hr1 := hc1
      try simp only [decide_eq_true_eq, decide_eq_false_iff_not, Bool.and_eq_true, Bool.or_eq_true, Bool.and_eq_false_iff, Bool.or_eq_false_iff, Bool.not_eq_true', Bool.not_eq_false', Int.not_lt, Int.not_le] at hc1
      have hb : inR i d.D.length = true ∧ 1 ≤ xs.length ∧ xs.length ≤ 64 := by
        simp at hr1; refine ⟨?_, by omega, by omega⟩; exact hr1.1.1
      obtain ⟨hi, hx1, hx2⟩ := hb
      have hbb : okB d.C i xs = true := by simp [okB, d.C_len, hi, hx1, hx2]
      obtain ⟨k, rfl, hk⟩ := inR_at hi
      obtain ⟨L, hL⟩ : ∃ L, d.D[k] = L := ⟨_, rfl⟩
      have hat := hok.at hk
      rw [hL] at hat
      obtain ⟨hokL, hqL, hcL⟩ := hat
      have hkr : k < (d.D.map LnD.r).length := by rw [List.length_map]; exact hk
      have hgr : (d.D.map LnD.r)[k] = L.r := by rw [List.getElem_map, hL]
      have hkc : k < (d.D.map cI).length := by rw [List.length_map]; exact hk
      have hgk : (d.D.map cI)[k] = cI L := by rw [List.getElem_map, hL]
      have hlc : laneC d.C (k : Int) = L.q.map Prod.snd := by rw [d.laneC_at hk, hL]
      replace hS : St wb (blkE p (Enc.enc (LaS.mk d.lv d.cv)) 50 :: ownE d.lv.v 57 (d.D.map LnD.r) :: ownE d.cv.v 3 (d.D.map cI) :: ownE d.D[k].l.v 32 d.D[k].cs :: (bE d.D[k].q ++ (restE d.D k ++ S))) _ := hS.laneOut [_, _, _] hk
      rw [hL] at hS
      refine WC.skip ?_
      refine blockQ_n ?_
      refine thenQ_n (hK2 _ _ ?_)
      refine WC.seq (fun K6 hK6 => ?_)
      refine WC.draw 9 (.look 0 (.look 1 (.look 2 (.look 3 (.look 4 (.look 5 (.look 6 (.one 7 (.one 8 (.one 9 .nil)))))))))) (by kernel_rfl) (fun _ _ _ h => h) (fun w1 hw1 => ?_)
      replace hS := hS.bel hw1
      have hS1 := hS
      have hT := St.start w1
      refine ML.look rfl rfl rfl (fun w hw => (by have hS := hS1.bel hw; exact opW.moveV (v := .pointer (some ⟨p, 0, none⟩)) rfl ⟨rfl, rfl⟩)) ?_
      refine ML.look rfl rfl rfl (fun w hw => (by have hS := hS1.bel hw; exact opW.nilCheckB rfl ⟨rfl, rfl⟩)) ?_
      refine ML.look rfl rfl rfl (fun w hw => (by have hS := hS1.bel hw; exact opW.fieldAddrB rfl ⟨rfl, rfl⟩)) ?_
      refine ML.look rfl rfl rfl (fun w hw => (by have hS := hS1.bel hw; exact opW.loadV rfl (hS.ld1 (by first | exact .h0 | exact .h1 | exact .h2 | exact .h3 | exact .h4 | exact .h5 | exact .h6 | exact .h7 | exact .h8 | exact .h9 | exact .h10 | exact .h11 | exact .h12 | exact .h13 | exact .h14) (LaS.at_lanes (LaS.mk d.lv d.cv))) ⟨rfl, rfl⟩)) ?_
      refine ML.look rfl rfl rfl (fun w hw => (by have hS := hS1.bel hw; exact opW.moveI rfl ⟨rfl, rfl⟩)) ?_
      refine ML.look rfl rfl rfl (fun w hw => (by have hS := hS1.bel hw; exact opW.idxV rfl (hS.sl (v := d.lv.v) (xs := (d.D.map LnD.r)) (by first | exact .h0 | exact .h1 | exact .h2 | exact .h3 | exact .h4 | exact .h5 | exact .h6 | exact .h7 | exact .h8 | exact .h9 | exact .h10 | exact .h11 | exact .h12 | exact .h13 | exact .h14)) rfl (by omega) ⟨rfl, rfl⟩)) ?_
      refine ML.look rfl rfl rfl (fun w hw => (by have hS := hS1.bel hw; exact opW.moveV (v := v) rfl ⟨rfl, rfl⟩)) ?_
      refine ML.one rfl rfl rfl (opW.call (clone_i _ v xs (hl _ (hS.drop1.drop1.drop1.drop1.sub ((List.sublist_append_right _ _).trans (List.sublist_append_right _ _)))) (by omega)) rfl ?_)
      rintro v39 w ⟨hn39, hw⟩; replace hT := hT.newOwn hw hn39.1 hn39.2
      refine ⟨hT.old, ?_⟩
      have hS := hS1.merge hT
      try simp only [List.cons_append, List.nil_append] at hS
      refine ML.one rfl rfl rfl (opW.call (clip_i _ _ xs (hS.sl (v := v39) (xs := xs) (by first | exact .h0 | exact .h1 | exact .h2 | exact .h3 | exact .h4 | exact .h5 | exact .h6 | exact .h7 | exact .h8 | exact .h9 | exact .h10 | exact .h11 | exact .h12 | exact .h13 | exact .h14))) rfl ?_)
      rintro v40 w ⟨h40, hw⟩; replace hT := hT.bel hw
      replace hT := hT.clipS (v := v39) (xs := xs) (by first | exact .h0 | exact .h1 | exact .h2 | exact .h3 | exact .h4 | exact .h5 | exact .h6 | exact .h7 | exact .h8 | exact .h9 | exact .h10 | exact .h11 | exact .h12 | exact .h13 | exact .h14)
      rw [← h40] at hT
      obtain ⟨s40, rfl⟩ := (hT.sl (v := v40) (xs := xs) (by first | exact .h0 | exact .h1 | exact .h2 | exact .h3 | exact .h4 | exact .h5 | exact .h6 | exact .h7 | exact .h8 | exact .h9 | exact .h10 | exact .h11 | exact .h12 | exact .h13 | exact .h14)).asV
      refine ⟨hT.old, ?_⟩
      have hS := hS1.merge hT
      try simp only [List.cons_append, List.nil_append] at hS
      refine ML.put1 rfl rfl rfl rfl (opW.call (push_ok_ wb _ _ d.lv.v (d.D.map LnD.r) k L hkr hgr hokL s40 xs (by omega) ((hS.pick (e := ownE L.l.v 32 L.cs) (by first | exact .h0 | exact .h1 | exact .h2 | exact .h3 | exact .h4 | exact .h5 | exact .h6 | exact .h7 | exact .h8 | exact .h9 | exact .h10 | exact .h11 | exact .h12 | exact .h13 | exact .h14)).pick (e := ownE d.lv.v 57 (d.D.map LnD.r)) (by first | exact .h0 | exact .h1 | exact .h2 | exact .h3 | exact .h4 | exact .h5 | exact .h6 | exact .h7 | exact .h8 | exact .h9 | exact .h10 | exact .h11 | exact .h12 | exact .h13 | exact .h14))) rfl ?_)
      rintro v41 w ⟨L', hq', hok', hS⟩
      refine ML.nil ?_
      refine thenQ_n (hK6 _ _ ?_)
      refine WC.seq (fun K7 hK7 => ?_)
      refine WC.region ?_
      replace hS := St.pushB [_, _, _, _] (b := (s40, xs)) (hS.pick (e := ownE s40.v 3 xs) (by first | exact .h0 | exact .h1 | exact .h2 | exact .h3 | exact .h4 | exact .h5 | exact .h6 | exact .h7 | exact .h8 | exact .h9 | exact .h10 | exact .h11 | exact .h12 | exact .h13 | exact .h14))
      rw [← hq'] at hS
      have hct := cnt_app L.q (s40, xs)
      rw [← hq'] at hct
      have hql : L'.q.length = L.q.length + 1 := by rw [hq']; simp
      refine WL.op rfl (opW.moveV (v := .pointer (some ⟨p, 0, none⟩)) rfl ?_)
      refine WL.op rfl (opW.nilCheckB rfl ?_)
      refine WL.op rfl (opW.fieldAddrB rfl ?_)
      refine WL.op rfl (opW.loadV rfl (hS.ld1 (by first | exact .h0 | exact .h1 | exact .h2 | exact .h3 | exact .h4 | exact .h5 | exact .h6 | exact .h7 | exact .h8 | exact .h9 | exact .h10 | exact .h11 | exact .h12 | exact .h13 | exact .h14) (LaS.at_count (LaS.mk d.lv d.cv))) ?_)
      refine WL.op rfl (opW.moveI rfl ?_)
      refine WL.op rfl (opW.idxV rfl (hS.sl (v := d.cv.v) (xs := (d.D.map cI)) (by first | exact .h0 | exact .h1 | exact .h2 | exact .h3 | exact .h4 | exact .h5 | exact .h6 | exact .h7 | exact .h8 | exact .h9 | exact .h10 | exact .h11 | exact .h12 | exact .h13 | exact .h14)) rfl (by omega) ?_)
      refine WL.op rfl (opW.loadV rfl (Ld.pt10 ((hS.sl (v := d.cv.v) (xs := (d.D.map cI)) (by first | exact .h0 | exact .h1 | exact .h2 | exact .h3 | exact .h4 | exact .h5 | exact .h6 | exact .h7 | exact .h8 | exact .h9 | exact .h10 | exact .h11 | exact .h12 | exact .h13 | exact .h14)).isPt hkc) (by rw [hgk]; rfl : (Enc.enc ((d.D.map cI)[k]))[0]? = some (.int .i64 (cnt L.q : Int)))) ?_)
      refine WL.op rfl (opW.moveV (v := v) rfl ?_)
      refine WL.op rfl (opW.lenV rfl ((hl _ (hS.drop1.drop1.drop1.drop1.sub ((List.sublist_append_right _ _).trans (List.sublist_append_right _ _))))) ?_)
      refine WL.op rfl (opW.add rfl rfl ((wrap_i64 (by omega)).trans (by simp only at hct; omega : _ = (cnt L'.q : Int))) ?_)
      refine WL.op rfl (opW.idxV rfl (hS.sl (v := d.cv.v) (xs := (d.D.map cI)) (by first | exact .h0 | exact .h1 | exact .h2 | exact .h3 | exact .h4 | exact .h5 | exact .h6 | exact .h7 | exact .h8 | exact .h9 | exact .h10 | exact .h11 | exact .h12 | exact .h13 | exact .h14)) rfl (by omega) ?_)
      refine WL.op0 (opW.storeOwn (v := d.cv.v) (u := .int .i64 (cnt L'.q : Int)) (sz := 1) (xs := (d.D.map cI)) (i := k) (off := 0) (y' := cI L') hS (by first | exact .h0 | exact .h1 | exact .h2 | exact .h3 | exact .h4 | exact .h5 | exact .h6 | exact .h7 | exact .h8 | exact .h9 | exact .h10 | exact .h11 | exact .h12 | exact .h13 | exact .h14) hkc (ptrAdd_zero d.cv.v k (Enc.sz I64)).symm rfl (by rfl) (by decide) (one_int _ _) (spl_all (by rfl)) ?_)
      intro w hS; replace hS := hS _ (by first | exact .h0 | exact .h1 | exact .h2 | exact .h3 | exact .h4 | exact .h5 | exact .h6 | exact .h7 | exact .h8 | exact .h9 | exact .h10 | exact .h11 | exact .h12 | exact .h13 | exact .h14)
      refine WL.nil ?_
      refine thenQ_n (hK7 _ _ ?_)
      refine WC.seq (fun K8 hK8 => ?_)
      refine WC.region ?_
      refine WL.op rfl (opW.assignI rfl ?_)
      refine WL.nil ?_
      refine thenQ_n (hK8 _ _ ?_)
      refine WC.ret ?_
      refine bodyQ_ret (.tmpI rfl .nil) ?_
      rw [hbb, if_pos rfl]
      refine ⟨⟨d.lv, d.cv, d.D.set k L'⟩, rfl, ?_, rfl, hok.set (Nat.le_succ _) hok' (by omega) (by simp only at hct; omega), hS.laBack0 hk⟩
      rw [d.C_set, pushR, hbb, if_pos rfl, hlc, Int.toNat_natCast, hq', List.map_append]; rfl

end Go.Fer
