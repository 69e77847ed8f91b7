/- a signature read -/
import Derived.Test.YtmiacbnmifejdaaPD
import Derived.Test.YtmiacbnmifejdaaWords
set_option linter.all false
namespace Go.Fer
open Go Go.Proofs Go.RowKit

structure Reading where
  tx : Tx
  left : SlV
def Reading.parts (x : Reading) : List (Array Value) := [Enc.enc x.tx, #[x.left.v]]
theorem Reading.sizes (x : Reading) : x.parts.map Array.size = [40, 1] := by
  simp only [Reading.parts, List.map, Enc.size_eq]; rfl
instance : Enc Reading where
  enc x := joinA x.parts
  sz := 41
  pos := by omega
  size_eq x := by rw [joinA_size, Reading.sizes]; rfl
  one x := joinA_one (all_cons (Enc.one _) (all_cons (Enc.one (α := SlV) _) all_nil))
theorem Reading.enc_eq (x : Reading) : Enc.enc x = joinA x.parts := rfl
theorem Reading.ex_tx (x : Reading) : (Enc.enc x).extract 0 (0 + 40) = Enc.enc x.tx := joinA_ex [] [#[x.left.v]] _ (by rw [joinA_size]; simp only [List.map, Enc.size_eq]; rfl) (by rw [Enc.size_eq]; rfl)
theorem Reading.at_left (x : Reading) : (Enc.enc x)[40]? = some (x.left.v) := joinA_at [Enc.enc x.tx] [] _ (by rw [joinA_size]; simp only [List.map, Enc.size_eq]; rfl)
theorem Reading.set_tx (x : Reading) (v : Tx) : spl (Enc.enc x) 0 (Enc.enc v) = Enc.enc { x with tx := v } := by
  have h := spl_join [] [#[x.left.v]] (Enc.enc x.tx) (Enc.enc v) (by first | (rw [Enc.size_eq, Enc.size_eq]; done) | rfl)
  rw [show (joinA []).size = 0 from (by rw [joinA_size]; simp only [List.map, Enc.size_eq]; rfl)] at h
  exact h
theorem Reading.set_left (x : Reading) (v : SlV) : spl (Enc.enc x) 40 #[v.v] = Enc.enc { x with left := v } := by
  have h := spl_join [Enc.enc x.tx] [] (#[x.left.v]) (#[v.v]) (by first | (rw [Enc.size_eq, Enc.size_eq]; done) | rfl)
  rw [show (joinA [Enc.enc x.tx]).size = 40 from (by rw [joinA_size]; simp only [List.map, Enc.size_eq]; rfl)] at h
  exact h
theorem Reading.at_tx_sigs (x : Reading) : (Enc.enc x)[0]? = some (x.tx.sigs.v) := at_of_ex (i := 0) (Reading.ex_tx x) (Tx.at_sigs x.tx) (by decide)
def Reading.ok (w : World) (x : Reading) : Prop := (Tx.ok w x.tx) ∧ (∃ l : List (UInt8), SlR w x.left.v l ∧ ∀ e ∈ l, True)
theorem Reading.ok.bel {w w' : World} {x : Reading} (hb : Bel w w') (h : Reading.ok w x) : Reading.ok w' x := by
  unfold Reading.ok at h ⊢
  obtain ⟨g0, ⟨l1, g1⟩⟩ := h
  exact ⟨(Tx.ok.bel hb g0), (⟨_, g1.1.bel hb, fun e he => trivial⟩)⟩
theorem rdw_Reading : RdW Try.prog 81 Reading Reading.ok := by
  intro H enc w fuel cs d ps hr
  obtain ⟨hend, fuel', hf⟩ := rdS Try.underlying81 inferInstance hr
  obtain ⟨d0, ps0, h0⟩ := hf 0 _ 33 0 40 rfl rfl rfl inferInstance
  obtain ⟨x0, e0, i0⟩ := rd_of rdw_Tx h0
  obtain ⟨d1, ps1, h1⟩ := hf 1 _ 37 40 1 rfl rfl rfl inferInstance
  obtain ⟨x1, e1, i1⟩ := rd_slv (α := UInt8) inferInstance rdw_u8 inferInstance h1
  have k1 := cells_cut e1 hend
  have k0 := cells_cut e0 k1
  refine ⟨⟨x0, x1⟩, ?_, ⟨i0, i1⟩⟩
  rw [Reading.enc_eq]; simp only [Reading.parts, joinA_toList_cons, joinA_nil]
  rw [List.drop_zero] at k0; rw [k0]; try simp

theorem Reading.set_s0 (x : Reading) (v : SlV) : spl (Enc.enc x) 0 #[v.v] = Enc.enc { x with tx := { x.tx with sigs := v } } := by
  have h := spl_in (cs := Enc.enc x) (v := #[v.v]) (o := 0) (n := 40) (i := 0) (show 0 + 1 ≤ 40 by decide) (by rw [Enc.size_eq]; decide)
  rw [Reading.ex_tx, Tx.set_sigs, Reading.set_tx] at h
  exact h

theorem sig_ok (wb w0 : World) (S : List Ent) (p : Nat) (sg lv : SlV) (l : List (Vector UInt8 64)) (ys : List UInt8) (hy : SlR wb lv.v ys) (hl : l.length ≤ 70000) (hS0 : St wb (blkE p (Enc.enc (⟨⟨sg, (⟨false, ⟨0, 0, 0⟩, ⟨none, 0, 0⟩, vz 32, ⟨none, 0, 0⟩, ⟨none, 0, 0⟩⟩ : Message)⟩, lv⟩ : Reading)) 81 :: ownE sg.v 62 l :: S) w0) : Ret Try.prog 43 #[.pointer (some ⟨p, 0, none⟩)] w0 (fun u w' => ∃ b, u = .bool b ∧ ((b = false ∧ ys.length < 64 ∧ St wb (blkE p (Enc.enc (⟨⟨sg, (⟨false, ⟨0, 0, 0⟩, ⟨none, 0, 0⟩, vz 32, ⟨none, 0, 0⟩, ⟨none, 0, 0⟩⟩ : Message)⟩, lv⟩ : Reading)) 81 :: ownE sg.v 62 l :: S) w') ∨ (b = true ∧ 64 ≤ ys.length ∧ ∃ s2 l2 : SlV, SlR wb l2.v (ys.drop 64) ∧ St wb (blkE p (Enc.enc (⟨⟨s2, (⟨false, ⟨0, 0, 0⟩, ⟨none, 0, 0⟩, vz 32, ⟨none, 0, 0⟩, ⟨none, 0, 0⟩⟩ : Message)⟩, l2⟩ : Reading)) 81 :: ownE s2.v 62 (l ++ [vecOf 64 (ys.take 64)]) :: S) w'))) := by
  refine Ret.enter (args := [.pointer (some ⟨p, 0, none⟩)]) Try.func43 rfl Try.ntmps43 Try.results43 rfl ?_
  have hS := St.start w0
  replace hS := hS0
  refine WC.seq (fun K1 hK1 => ?_)
  refine WC.region ?_
  refine WL.op rfl (opW.assignB rfl ?_)
  refine WL.nil ?_
  refine thenQ_n (hK1 _ _ ?_)
  refine WC.seq (fun K2 hK2 => ?_)
  refine WC.seq (fun K3 hK3 => ?_)
  refine WC.region ?_
  refine WL.op rfl (opW.moveV (v := .pointer (some ⟨p, 0, none⟩)) rfl ?_)
  refine WL.op rfl (opW.nilCheckB rfl ?_)
  refine WL.op rfl (opW.fieldAddrB rfl ?_)
  refine WL.op rfl (opW.loadV rfl (hS.ld1 (by first | exact .h0 | exact .h1 | exact .h2 | exact .h3 | exact .h4 | exact .h5 | exact .h6 | exact .h7 | exact .h8 | exact .h9 | exact .h10 | exact .h11 | exact .h12 | exact .h13 | exact .h14) (show (Enc.enc (⟨⟨sg, (⟨false, ⟨0, 0, 0⟩, ⟨none, 0, 0⟩, vz 32, ⟨none, 0, 0⟩, ⟨none, 0, 0⟩⟩ : Message)⟩, lv⟩ : Reading))[40]? = some (lv.v) from Reading.at_left _)) ?_)
  refine WL.op rfl (opW.lenV rfl ((hy.bel hS.old)) ?_)
  refine WL.op rfl (opW.lss rfl rfl ?_)
  refine WL.nil ?_
  refine thenQ_n (hK3 _ _ ?_)
  refine WC.cond _ rfl (fun hc0 => ?_) (fun hc0 => ?_)
  ·
    have hr0 := hc0
    try simp only [decide_eq_true_eq, decide_eq_false_iff_not, Bool.and_eq_true, Bool.or_eq_true, Bool.and_eq_false_iff, Bool.or_eq_false_iff, Bool.not_eq_true', Bool.not_eq_false', Int.not_lt, Int.not_le] at hc0
    refine WC.seq (fun K4 hK4 => ?_)
    refine WC.region ?_
    refine WL.op rfl (opW.assignB rfl ?_)
    refine WL.nil ?_
    refine thenQ_n (hK4 _ _ ?_)
    refine WC.ret ?_
    refine thenQ_r ?_
    refine bodyQ_ret (.tmpB rfl .nil) ?_
    exact ⟨false, rfl, .inl ⟨rfl, by omega, hS⟩⟩
  ·
    have hr0 := hc0
    try simp only [decide_eq_true_eq, decide_eq_false_iff_not, Bool.and_eq_true, Bool.or_eq_true, Bool.and_eq_false_iff, Bool.or_eq_false_iff, Bool.not_eq_true', Bool.not_eq_false', Int.not_lt, Int.not_le] at hc0
    refine WC.skip ?_
    refine thenQ_n (hK2 _ _ ?_)
    refine WC.seq (fun K5 hK5 => ?_)
    refine WC.draw 14 (.look 0 (.look 1 (.look 2 (.look 3 (.look 4 (.look 5 (.look 6 (.look 7 (.look 8 (.look 9 (.look 10 (.one 11 (.look 12 (.one 13 (.one 14 (.one 15 (.one 16 (.one 17 (.one 18 .nil))))))))))))))))))) (by kernel_rfl) (fun _ _ _ h => h) (fun w1 hw1 => ?_)
    replace hS := hS.bel hw1
    have hS1 := hS
    have hT := St.start w1
    refine ML.look rfl rfl rfl (fun w hw => (by have hS := hS1.bel hw; exact opW.moveV (v := .pointer (some ⟨p, 0, none⟩)) rfl ⟨rfl, rfl⟩)) ?_
    refine ML.look rfl rfl rfl (fun w hw => (by have hS := hS1.bel hw; exact opW.moveV (v := .pointer (some ⟨p, 0, none⟩)) rfl ⟨rfl, rfl⟩)) ?_
    refine ML.look rfl rfl rfl (fun w hw => (by have hS := hS1.bel hw; exact opW.nilCheckB rfl ⟨rfl, rfl⟩)) ?_
    refine ML.look rfl rfl rfl (fun w hw => (by have hS := hS1.bel hw; exact opW.fieldAddrB rfl ⟨rfl, rfl⟩)) ?_
    refine ML.look rfl rfl rfl (fun w hw => (by have hS := hS1.bel hw; exact opW.fieldAddrB rfl ⟨rfl, rfl⟩)) ?_
    refine ML.look rfl rfl rfl (fun w hw => (by have hS := hS1.bel hw; exact opW.loadV rfl (hS.ld1 (by first | exact .h0 | exact .h1 | exact .h2 | exact .h3 | exact .h4 | exact .h5 | exact .h6 | exact .h7 | exact .h8 | exact .h9 | exact .h10 | exact .h11 | exact .h12 | exact .h13 | exact .h14) (show (Enc.enc (⟨⟨sg, (⟨false, ⟨0, 0, 0⟩, ⟨none, 0, 0⟩, vz 32, ⟨none, 0, 0⟩, ⟨none, 0, 0⟩⟩ : Message)⟩, lv⟩ : Reading))[0]? = some (sg.v) from Reading.at_tx_sigs _)) ⟨rfl, rfl⟩)) ?_
    refine ML.look rfl rfl rfl (fun w hw => (by have hS := hS1.bel hw; exact opW.moveV (v := .pointer (some ⟨p, 0, none⟩)) rfl ⟨rfl, rfl⟩)) ?_
    refine ML.look rfl rfl rfl (fun w hw => (by have hS := hS1.bel hw; exact opW.nilCheckB rfl ⟨rfl, rfl⟩)) ?_
    refine ML.look rfl rfl rfl (fun w hw => (by have hS := hS1.bel hw; exact opW.fieldAddrB rfl ⟨rfl, rfl⟩)) ?_
    refine ML.look rfl rfl rfl (fun w hw => (by have hS := hS1.bel hw; exact opW.loadV rfl (hS.ld1 (by first | exact .h0 | exact .h1 | exact .h2 | exact .h3 | exact .h4 | exact .h5 | exact .h6 | exact .h7 | exact .h8 | exact .h9 | exact .h10 | exact .h11 | exact .h12 | exact .h13 | exact .h14) (show (Enc.enc (⟨⟨sg, (⟨false, ⟨0, 0, 0⟩, ⟨none, 0, 0⟩, vz 32, ⟨none, 0, 0⟩, ⟨none, 0, 0⟩⟩ : Message)⟩, lv⟩ : Reading))[40]? = some (lv.v) from Reading.at_left _)) ⟨rfl, rfl⟩)) ?_
    refine ML.look rfl rfl rfl (fun w hw => (by have hS := hS1.bel hw; exact opW.cutS (hy.bel hS.old) (xs := ys) (l := 0) (h' := 64) (m := capV lv.v) ⟨rfl, Nat.le_refl _⟩ ⟨⟨_, rfl⟩, by have := (hy.bel hS.old).cap; omega⟩ ⟨rfl, Nat.zero_le _⟩ ⟨rfl, rfl⟩)) ?_
    refine ML.one rfl rfl rfl (opW.arrAt (n := 64) (xs := (ys.take 64)) rfl ((hy.bel hS.old).cut (l := 0) (h := 64) (m := capV lv.v) (Nat.zero_le _) (by omega) (by have := (hy.bel hS.old).cap; omega) (Nat.le_refl _)) (by rw [List.length_take]; omega) (by omega) ?_)
    refine ⟨hT.old, ?_⟩
    have hS := hS1.merge hT
    try simp only [List.cons_append, List.nil_append] at hS
    refine ML.look rfl rfl rfl (fun w hw => (by have hS := hS1.bel hw; exact opW.loadV rfl (((SlR.key (n := 63) (xs := (ys.take 64)) ((hy.bel hS.old).cut (l := 0) (h := 64) (m := capV lv.v) (Nat.zero_le _) (by omega) (by have := (hy.bel hS.old).cap; omega) (Nat.le_refl _)) (by rw [List.length_take]; omega))).ldA (Enc.size_eq _)) ⟨rfl, rfl⟩)) ?_
    refine ML.one rfl rfl rfl (opW.buildSl hT (([vecOf 64 (ys.take 64)] : List (Vector UInt8 64))) [.agg (Enc.enc (vecOf 64 (ys.take 64)))] rfl rfl rfl rfl (by decide) ?_)
    intro b22 w hw hT
    refine ⟨hT.old, ?_⟩
    have hS := hS1.merge hT
    try simp only [List.cons_append, List.nil_append] at hS
    refine ML.put1 rfl rfl rfl rfl (opW.appendOwn (α := Vector UInt8 64) (v := sg.v) (xs := l) rfl hS rfl (by first | exact .h0 | exact .h1 | exact .h2 | exact .h3 | exact .h4 | exact .h5 | exact .h6 | exact .h7 | exact .h8 | exact .h9 | exact .h10 | exact .h11 | exact .h12 | exact .h13 | exact .h14) (hS.sl (v := .slice (some ⟨b22, 0, none⟩) 1 1) (xs := [vecOf 64 (ys.take 64)]) (by first | exact .h0 | exact .h1 | exact .h2 | exact .h3 | exact .h4 | exact .h5 | exact .h6 | exact .h7 | exact .h8 | exact .h9 | exact .h10 | exact .h11 | exact .h12 | exact .h13 | exact .h14)) (by simp only [List.length_cons, List.length_nil]; omega) (by simp only [List.length_cons, List.length_nil, maxLen]; omega) ?_)
    intro v23 w hS; replace hS := hS _ (by first | exact .h0 | exact .h1 | exact .h2 | exact .h3 | exact .h4 | exact .h5 | exact .h6 | exact .h7 | exact .h8 | exact .h9 | exact .h10 | exact .h11 | exact .h12 | exact .h13 | exact .h14)
    obtain ⟨s23, rfl⟩ := (hS.sl (v := v23) (xs := l ++ [vecOf 64 (ys.take 64)]) (by first | exact .h0 | exact .h1 | exact .h2 | exact .h3 | exact .h4 | exact .h5 | exact .h6 | exact .h7 | exact .h8 | exact .h9 | exact .h10 | exact .h11 | exact .h12 | exact .h13 | exact .h14)).asV
    refine ML.put1 rfl rfl rfl rfl (opW.nilCheckB rfl ?_)
    refine ML.put1 rfl rfl rfl rfl (opW.fieldAddrB rfl ?_)
    refine ML.put1 rfl rfl rfl rfl (opW.fieldAddrB rfl ?_)
    refine ML.put0 rfl rfl rfl (opW.storeF (b := p) (o := 0) (v := s23.v) (sz := 1) (cs := Enc.enc (⟨⟨sg, (⟨false, ⟨0, 0, 0⟩, ⟨none, 0, 0⟩, vz 32, ⟨none, 0, 0⟩, ⟨none, 0, 0⟩⟩ : Message)⟩, lv⟩ : Reading)) (cs' := Enc.enc (⟨⟨s23, (⟨false, ⟨0, 0, 0⟩, ⟨none, 0, 0⟩, vz 32, ⟨none, 0, 0⟩, ⟨none, 0, 0⟩⟩ : Message)⟩, lv⟩ : Reading)) hS rfl rfl (by first | exact .h0 | exact .h1 | exact .h2 | exact .h3 | exact .h4 | exact .h5 | exact .h6 | exact .h7 | exact .h8 | exact .h9 | exact .h10 | exact .h11 | exact .h12 | exact .h13 | exact .h14) rfl (by rw [Enc.size_eq]; decide) (Enc.one (α := SlV) s23) (Reading.set_s0 (⟨⟨sg, (⟨false, ⟨0, 0, 0⟩, ⟨none, 0, 0⟩, vz 32, ⟨none, 0, 0⟩, ⟨none, 0, 0⟩⟩ : Message)⟩, lv⟩ : Reading) s23) ?_)
    intro w hS; replace hS := hS _ (by first | exact .h0 | exact .h1 | exact .h2 | exact .h3 | exact .h4 | exact .h5 | exact .h6 | exact .h7 | exact .h8 | exact .h9 | exact .h10 | exact .h11 | exact .h12 | exact .h13 | exact .h14)
    refine ML.nil ?_
    refine thenQ_n (hK5 _ _ ?_)
    refine WC.seq (fun K6 hK6 => ?_)
    refine WC.region ?_
    refine WL.op rfl (opW.moveV (v := .pointer (some ⟨p, 0, none⟩)) rfl ?_)
    refine WL.op rfl (opW.moveV (v := .pointer (some ⟨p, 0, none⟩)) rfl ?_)
    refine WL.op rfl (opW.nilCheckB rfl ?_)
    refine WL.op rfl (opW.fieldAddrB rfl ?_)
    refine WL.op rfl (opW.loadV rfl (hS.ld1 (by first | exact .h0 | exact .h1 | exact .h2 | exact .h3 | exact .h4 | exact .h5 | exact .h6 | exact .h7 | exact .h8 | exact .h9 | exact .h10 | exact .h11 | exact .h12 | exact .h13 | exact .h14) (show (Enc.enc (⟨⟨s23, (⟨false, ⟨0, 0, 0⟩, ⟨none, 0, 0⟩, vz 32, ⟨none, 0, 0⟩, ⟨none, 0, 0⟩⟩ : Message)⟩, lv⟩ : Reading))[40]? = some (lv.v) from Reading.at_left _)) ?_)
    refine WL.op rfl (opW.cutS (hy.bel hS.old) (xs := ys) (l := 64) (h' := ys.length) (m := capV lv.v) ⟨rfl, Nat.le_refl _⟩ ⟨⟨rfl, rfl⟩, (hy.bel hS.old).cap⟩ ⟨⟨_, rfl⟩, by omega⟩ ?_)
    have hcs : SlR wb (cutV lv.v 64 ys.length (capV lv.v) (Enc.sz UInt8)) (ys.drop 64) := by
      have h1 := hy.cut (l := 64) (h := ys.length) (m := capV lv.v) (by omega) (Nat.le_refl _) hy.cap (Nat.le_refl _)
      rw [List.take_length] at h1
      exact h1
    obtain ⟨lw, hlw⟩ := hcs.asV
    rw [hlw] at hcs
    show WL _ _ _ _ _ (upd _ _ (cutV lv.v 64 ys.length (capV lv.v) (Enc.sz UInt8))) _
    rw [hlw]
    refine WL.op rfl (opW.nilCheckB rfl ?_)
    refine WL.op rfl (opW.fieldAddrB rfl ?_)
    refine WL.op0 (opW.storeF (b := p) (o := 40) (v := lw.v) (sz := 1) (cs := Enc.enc (⟨⟨s23, (⟨false, ⟨0, 0, 0⟩, ⟨none, 0, 0⟩, vz 32, ⟨none, 0, 0⟩, ⟨none, 0, 0⟩⟩ : Message)⟩, lv⟩ : Reading)) (cs' := Enc.enc (⟨⟨s23, (⟨false, ⟨0, 0, 0⟩, ⟨none, 0, 0⟩, vz 32, ⟨none, 0, 0⟩, ⟨none, 0, 0⟩⟩ : Message)⟩, lw⟩ : Reading)) hS rfl rfl (by first | exact .h0 | exact .h1 | exact .h2 | exact .h3 | exact .h4 | exact .h5 | exact .h6 | exact .h7 | exact .h8 | exact .h9 | exact .h10 | exact .h11 | exact .h12 | exact .h13 | exact .h14) rfl (by rw [Enc.size_eq]; decide) (Enc.one (α := SlV) lw) (Reading.set_left (⟨⟨s23, (⟨false, ⟨0, 0, 0⟩, ⟨none, 0, 0⟩, vz 32, ⟨none, 0, 0⟩, ⟨none, 0, 0⟩⟩ : Message)⟩, lv⟩ : Reading) lw) ?_)
    intro w hS; replace hS := hS _ (by first | exact .h0 | exact .h1 | exact .h2 | exact .h3 | exact .h4 | exact .h5 | exact .h6 | exact .h7 | exact .h8 | exact .h9 | exact .h10 | exact .h11 | exact .h12 | exact .h13 | exact .h14)
    refine WL.nil ?_
    refine thenQ_n (hK6 _ _ ?_)
    refine WC.seq (fun K7 hK7 => ?_)
    refine WC.region ?_
    refine WL.op rfl (opW.assignB rfl ?_)
    refine WL.nil ?_
    refine thenQ_n (hK7 _ _ ?_)
    refine WC.ret ?_
    refine bodyQ_ret (.tmpB rfl .nil) ?_
    exact ⟨true, rfl, .inr ⟨rfl, by omega, s23, lw, hcs, ((hS.pick (e := ownE s23.v 62 (l ++ [vecOf 64 (ys.take 64)])) (by first | exact .h0 | exact .h1 | exact .h2 | exact .h3 | exact .h4 | exact .h5 | exact .h6 | exact .h7 | exact .h8 | exact .h9 | exact .h10 | exact .h11 | exact .h12 | exact .h13 | exact .h14)).pick (e := blkE p (Enc.enc (⟨⟨s23, (⟨false, ⟨0, 0, 0⟩, ⟨none, 0, 0⟩, vz 32, ⟨none, 0, 0⟩, ⟨none, 0, 0⟩⟩ : Message)⟩, lw⟩ : Reading)) 81) (by first | exact .h0 | exact .h1 | exact .h2 | exact .h3 | exact .h4 | exact .h5 | exact .h6 | exact .h7 | exact .h8 | exact .h9 | exact .h10 | exact .h11 | exact .h12 | exact .h13 | exact .h14)).sub (by repeat (first | with_reducible exact List.nil_sublist _ | with_reducible exact List.Sublist.refl _ | with_reducible refine List.Sublist.cons₂ _ ?_ | with_reducible refine List.Sublist.cons _ ?_))⟩⟩

end Go.Fer
