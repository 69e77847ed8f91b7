/- rings -/
import Derived.Test.YtppgmnljciakhaaA
set_option linter.all false
namespace Go.Fer
open Go Go.Proofs Go.RowKit

theorem ptrAdd_zero (v : Value) (i s : Nat) : ptrAdd (elemP v i s) 0 = elemP v i s := by
  unfold elemP
  split <;> simp [ptrAdd, undef]
def nilS : SlV := ⟨none, 0, 0⟩
theorem LnD.at_l (L : LnD) : (Enc.enc L.r)[0]? = some L.l.v := Ring.at_l L.r
theorem LnD.at_from_ (L : LnD) : (Enc.enc L.r)[1]? = some (.int .i64 (L.f : Int)) := Ring.at_from_ L.r
theorem LnD.at_many (L : LnD) : (Enc.enc L.r)[2]? = some (.int .i64 (L.q.length : Int)) := Ring.at_many L.r
theorem full_cut {v : Value} {n : Nat} (h : OwnS v n) (sz : Nat) : v = cutV v 0 n (capV v) sz := (h.self sz).symm

theorem at_ok (w0 : World) (rp : Value) (L : LnD) (i : Nat) (hp : Pt w0 rp (Enc.enc L.r)) (hs : SlR w0 L.l.v L.cs) (h0 : 0 < L.cs.length) (hc : L.cs.length ≤ 4001) (hf : L.f ≤ 4001) (hi : i ≤ 4001) : Ret Try.prog 26 #[rp, .int .i64 (i : Int)] w0 (fun u w' => u = .int .i64 (((L.f + i) % L.cs.length : Nat) : Int) ∧ Bel w0 w') := by
  refine Ret.enter (args := [rp, .int .i64 (i : Int)]) Try.func26 rfl Try.ntmps26 Try.results26 rfl ?_
  have hS := St.start w0
  refine WC.seq (fun K1 hK1 => ?_)
  refine WC.region ?_
  refine WL.op rfl (opW.assignI rfl ?_)
  refine WL.nil ?_
  refine thenQ_n (hK1 _ _ ?_)
  refine WC.seq (fun K2 hK2 => ?_)
  refine WC.draw 13 (.look 0 (.look 1 (.look 2 (.look 3 (.look 4 (.look 5 (.look 6 (.look 7 (.look 8 (.look 9 (.look 10 (.look 11 (.look 12 .nil))))))))))))) (by kernel_rfl) (fun _ _ _ h => h) (fun w1 hw1 => ?_)
  replace hS := hS.bel hw1
  have hS1 := hS
  have hT := St.start w1
  refine ML.look rfl rfl rfl (fun w hw => (by have hS := hS1.bel hw; exact opW.moveV (v := rp) rfl ⟨rfl, rfl⟩)) ?_
  refine ML.look rfl rfl rfl (fun w hw => (by have hS := hS1.bel hw; exact opW.nilCheck rfl ((hp.bel hS.old).isP) ⟨rfl, rfl⟩)) ?_
  refine ML.look rfl rfl rfl (fun w hw => (by have hS := hS1.bel hw; exact opW.fieldAddr rfl ((hp.bel hS.old).isP) ⟨rfl, rfl⟩)) ?_
  refine ML.look rfl rfl rfl (fun w hw => (by have hS := hS1.bel hw; exact opW.loadV rfl (Ld.pt1 (hp.bel hS.old) 1 (LnD.at_from_ L)) ⟨rfl, rfl⟩)) ?_
  refine ML.look rfl rfl rfl (fun w hw => (by have hS := hS1.bel hw; exact opW.moveI rfl ⟨rfl, rfl⟩)) ?_
  refine ML.look rfl rfl rfl (fun w hw => (by have hS := hS1.bel hw; exact opW.add rfl rfl ((wrap_i64 (by omega)).trans (by omega : _ = ((L.f + i : Nat) : Int))) ⟨rfl, rfl⟩)) ?_
  refine ML.look rfl rfl rfl (fun w hw => (by have hS := hS1.bel hw; exact opW.moveV (v := rp) rfl ⟨rfl, rfl⟩)) ?_
  refine ML.look rfl rfl rfl (fun w hw => (by have hS := hS1.bel hw; exact opW.nilCheck rfl ((hp.bel hS.old).isP) ⟨rfl, rfl⟩)) ?_
  refine ML.look rfl rfl rfl (fun w hw => (by have hS := hS1.bel hw; exact opW.fieldAddr rfl ((hp.bel hS.old).isP) ⟨rfl, rfl⟩)) ?_
  refine ML.look rfl rfl rfl (fun w hw => (by have hS := hS1.bel hw; exact opW.loadV rfl (Ld.pt1 (hp.bel hS.old) 0 (LnD.at_l L)) ⟨rfl, rfl⟩)) ?_
  refine ML.look rfl rfl rfl (fun w hw => (by have hS := hS1.bel hw; exact opW.lenV rfl ((hs.bel hS.old)) ⟨rfl, rfl⟩)) ?_
  refine ML.look rfl rfl rfl (fun w hw => (by have hS := hS1.bel hw; exact opW.rem rfl rfl (by omega) (tmod_nat (L.f + i) L.cs.length) ⟨rfl, rfl⟩)) ?_
  refine ML.look rfl rfl rfl (fun w hw => (by have hS := hS1.bel hw; exact opW.assignI rfl ⟨rfl, rfl⟩)) ?_
  refine ML.nil ?_
  refine thenQ_n (hK2 _ _ ?_)
  refine WC.ret ?_
  refine bodyQ_ret (.tmpI rfl .nil) ?_
  exact ⟨rfl, hS.old⟩

theorem grow1 {cs : List SlV} {f : Nat} {z : SlV} : (List.replicate (2 * cs.length + 1) z).take 0 ++ cs.drop f ++ (List.replicate (2 * cs.length + 1) z).drop (0 + (cs.drop f).length) = cs.drop f ++ List.replicate (2 * cs.length + 1 - (cs.drop f).length) z := by
  rw [List.take_zero, List.nil_append, List.drop_replicate, Nat.zero_add]
theorem grow1_len {cs : List SlV} {f : Nat} {z : SlV} : (cs.drop f ++ List.replicate (2 * cs.length + 1 - (cs.drop f).length) z).length = 2 * cs.length + 1 := by
  rw [List.length_append, List.length_replicate, List.length_drop]; omega
theorem grow2 {cs : List SlV} {f : Nat} (hf : f ≤ cs.length) : (cs.drop f ++ List.replicate (2 * cs.length + 1 - (cs.drop f).length) (⟨none, 0, 0⟩ : SlV)).take (cs.drop f).length ++ cs.take f ++ (cs.drop f ++ List.replicate (2 * cs.length + 1 - (cs.drop f).length) (⟨none, 0, 0⟩ : SlV)).drop ((cs.drop f).length + (cs.take f).length) = growL cs f := by
  rw [List.take_left, ← List.drop_drop, List.drop_left, List.drop_replicate]
  unfold growL
  congr 2
  rw [List.length_drop, List.length_take]; omega

set_option maxRecDepth 20000 in
set_option maxHeartbeats 4000000 in
theorem push_ok_ (wb w0 : World) (S : List Ent) (lv : Value) (rs : List Ring) (k : Nat) (L : LnD) (hk : k < rs.length) (hr : rs[k] = L.r) (hok : LnOk L) (b : SlV) (xs : List I64) (hb : L.q.length ≤ 1000) (hS0 : St wb (ownE lv 57 rs :: ownE L.l.v 32 L.cs :: S) w0) : Ret Try.prog 23 #[(elemP lv k (Enc.sz Ring)), b.v] w0 (fun u w' => ∃ L', L'.q = L.q ++ [(b, xs)] ∧ LnOk L' ∧ St wb (ownE lv 57 (rs.set k L'.r) :: ownE L'.l.v 32 L'.cs :: S) w') := by
  refine Ret.enter (args := [(elemP lv k (Enc.sz Ring)), b.v]) Try.func23 rfl Try.ntmps23 Try.results23 rfl ?_
  have hS := St.start w0
  replace hS := hS0
  have hcl := hok.2.1
  have hqc := hok.1
  refine WC.mid (fun f w => ∃ (L1 : LnD) (rs1 : List Ring), Fits [(0, (elemP lv k (Enc.sz Ring))), (1, b.v)] f ∧ St wb (ownE lv 57 rs1 :: ownE L1.l.v 32 L1.cs :: S) w ∧ LnOk L1 ∧ L1.q = L.q ∧ L1.q.length < L1.cs.length ∧ rs1 = rs.set k L1.r) ?_ ?_
  ·
    refine WC.seq (fun K1 hK1 => ?_)
    refine WC.draw 10 (.look 0 (.look 1 (.look 2 (.look 3 (.look 4 (.look 5 (.look 6 (.look 7 (.look 8 (.look 9 .nil)))))))))) (by kernel_rfl) (fun _ _ _ h => h) (fun w1 hw1 => ?_)
    replace hS := hS.bel hw1
    have hS1 := hS
    have hT := St.start w1
    refine ML.look rfl rfl rfl (fun w hw => (by have hS := hS1.bel hw; exact opW.moveV (v := (elemP lv k (Enc.sz Ring))) rfl ⟨rfl, rfl⟩)) ?_
    refine ML.look rfl rfl rfl (fun w hw => (by have hS := hS1.bel hw; exact opW.nilCheck rfl ((hS.sl (v := lv) (xs := rs) (by first | exact .h0 | exact .h1 | exact .h2 | exact .h3 | exact .h4 | exact .h5 | exact .h6 | exact .h7 | exact .h8 | exact .h9 | exact .h10 | exact .h11 | exact .h12 | exact .h13 | exact .h14)).isP hk) ⟨rfl, rfl⟩)) ?_
    refine ML.look rfl rfl rfl (fun w hw => (by have hS := hS1.bel hw; exact opW.fieldAddr rfl ((hS.sl (v := lv) (xs := rs) (by first | exact .h0 | exact .h1 | exact .h2 | exact .h3 | exact .h4 | exact .h5 | exact .h6 | exact .h7 | exact .h8 | exact .h9 | exact .h10 | exact .h11 | exact .h12 | exact .h13 | exact .h14)).isP hk) ⟨rfl, rfl⟩)) ?_
    refine ML.look rfl rfl rfl (fun w hw => (by have hS := hS1.bel hw; exact opW.loadV rfl (Ld.pt1 (show Pt _ (elemP lv k (Enc.sz Ring)) (Enc.enc L.r) from (congrArg Enc.enc hr) ▸ (hS.sl (v := lv) (xs := rs) (by first | exact .h0 | exact .h1 | exact .h2 | exact .h3 | exact .h4 | exact .h5 | exact .h6 | exact .h7 | exact .h8 | exact .h9 | exact .h10 | exact .h11 | exact .h12 | exact .h13 | exact .h14)).isPt hk) 2 (LnD.at_many L)) ⟨rfl, rfl⟩)) ?_
    refine ML.look rfl rfl rfl (fun w hw => (by have hS := hS1.bel hw; exact opW.moveV (v := (elemP lv k (Enc.sz Ring))) rfl ⟨rfl, rfl⟩)) ?_
    refine ML.look rfl rfl rfl (fun w hw => (by have hS := hS1.bel hw; exact opW.nilCheck rfl ((hS.sl (v := lv) (xs := rs) (by first | exact .h0 | exact .h1 | exact .h2 | exact .h3 | exact .h4 | exact .h5 | exact .h6 | exact .h7 | exact .h8 | exact .h9 | exact .h10 | exact .h11 | exact .h12 | exact .h13 | exact .h14)).isP hk) ⟨rfl, rfl⟩)) ?_
    refine ML.look rfl rfl rfl (fun w hw => (by have hS := hS1.bel hw; exact opW.fieldAddr rfl ((hS.sl (v := lv) (xs := rs) (by first | exact .h0 | exact .h1 | exact .h2 | exact .h3 | exact .h4 | exact .h5 | exact .h6 | exact .h7 | exact .h8 | exact .h9 | exact .h10 | exact .h11 | exact .h12 | exact .h13 | exact .h14)).isP hk) ⟨rfl, rfl⟩)) ?_
    refine ML.look rfl rfl rfl (fun w hw => (by have hS := hS1.bel hw; exact opW.loadV rfl (Ld.pt1 (show Pt _ (elemP lv k (Enc.sz Ring)) (Enc.enc L.r) from (congrArg Enc.enc hr) ▸ (hS.sl (v := lv) (xs := rs) (by first | exact .h0 | exact .h1 | exact .h2 | exact .h3 | exact .h4 | exact .h5 | exact .h6 | exact .h7 | exact .h8 | exact .h9 | exact .h10 | exact .h11 | exact .h12 | exact .h13 | exact .h14)).isPt hk) 0 (LnD.at_l L)) ⟨rfl, rfl⟩)) ?_
    refine ML.look rfl rfl rfl (fun w hw => (by have hS := hS1.bel hw; exact opW.lenV rfl (hS.sl (v := L.l.v) (xs := L.cs) (by first | exact .h0 | exact .h1 | exact .h2 | exact .h3 | exact .h4 | exact .h5 | exact .h6 | exact .h7 | exact .h8 | exact .h9 | exact .h10 | exact .h11 | exact .h12 | exact .h13 | exact .h14)) ⟨rfl, rfl⟩)) ?_
    refine ML.look rfl rfl rfl (fun w hw => (by have hS := hS1.bel hw; exact opW.eql rfl rfl ⟨rfl, rfl⟩)) ?_
    refine ML.nil ?_
    refine thenQ_n (hK1 _ _ ?_)
    refine WC.cond _ rfl (fun hc0 => ?_) (fun hc0 => ?_)
    ·
      have hr0 := hc0
      try simp only [decide_eq_true_eq, decide_eq_false_iff_not, Bool.and_eq_true, Bool.or_eq_true, Bool.and_eq_false_iff, Bool.or_eq_false_iff, Bool.not_eq_true', Bool.not_eq_false', Int.not_lt, Int.not_le] at hc0
      have hfull : L.q.length = L.cs.length := by omega
      refine WC.seq (fun K2 hK2 => ?_)
      refine WC.region ?_
      refine WL.op rfl (opW.moveV (v := (elemP lv k (Enc.sz Ring))) rfl ?_)
      refine WL.op rfl (opW.nilCheck rfl ((hS.sl (v := lv) (xs := rs) (by first | exact .h0 | exact .h1 | exact .h2 | exact .h3 | exact .h4 | exact .h5 | exact .h6 | exact .h7 | exact .h8 | exact .h9 | exact .h10 | exact .h11 | exact .h12 | exact .h13 | exact .h14)).isP hk) ?_)
      refine WL.op rfl (opW.fieldAddr rfl ((hS.sl (v := lv) (xs := rs) (by first | exact .h0 | exact .h1 | exact .h2 | exact .h3 | exact .h4 | exact .h5 | exact .h6 | exact .h7 | exact .h8 | exact .h9 | exact .h10 | exact .h11 | exact .h12 | exact .h13 | exact .h14)).isP hk) ?_)
      refine WL.op rfl (opW.loadV rfl (Ld.pt1 (show Pt _ (elemP lv k (Enc.sz Ring)) (Enc.enc L.r) from (congrArg Enc.enc hr) ▸ (hS.sl (v := lv) (xs := rs) (by first | exact .h0 | exact .h1 | exact .h2 | exact .h3 | exact .h4 | exact .h5 | exact .h6 | exact .h7 | exact .h8 | exact .h9 | exact .h10 | exact .h11 | exact .h12 | exact .h13 | exact .h14)).isPt hk) 0 (LnD.at_l L)) ?_)
      refine WL.op rfl (opW.lenV rfl (hS.sl (v := L.l.v) (xs := L.cs) (by first | exact .h0 | exact .h1 | exact .h2 | exact .h3 | exact .h4 | exact .h5 | exact .h6 | exact .h7 | exact .h8 | exact .h9 | exact .h10 | exact .h11 | exact .h12 | exact .h13 | exact .h14)) ?_)
      refine WL.op rfl (opW.mul rfl rfl ((wrap_i64 (by omega)).trans (by omega : _ = ((2 * L.cs.length : Nat) : Int))) ?_)
      refine WL.op rfl (opW.add rfl rfl ((wrap_i64 (by omega)).trans (by omega : _ = ((2 * L.cs.length + 1 : Nat) : Int))) ?_)
      refine WL.op rfl (opW.makeSl (α := SlV) (n := 2 * L.cs.length + 1) (⟨none, 0, 0⟩ : SlV) rfl hS rfl rfl (by omega) (by simp only [maxLen]; omega) ?_)
      intro b23 w _ hS
      refine WL.op rfl (opW.assignV (v := (.slice (some ⟨b23, 0, none⟩) (2 * L.cs.length + 1) (2 * L.cs.length + 1))) rfl ?_)
      refine WL.nil ?_
      refine thenQ_n (hK2 _ _ ?_)
      refine WC.seq (fun K3 hK3 => ?_)
      refine WC.draw 10 (.look 0 (.look 1 (.look 2 (.look 3 (.look 4 (.look 5 (.look 6 (.look 7 (.look 8 (.look 9 (.one 10 (.one 11 .nil)))))))))))) (by kernel_rfl) (fun _ _ _ h => h) (fun w1 hw1 => ?_)
      replace hS := hS.bel hw1
      have hS1 := hS
      have hT := St.start w1
      have hfc : L.f ≤ L.cs.length := by rcases hok.2.2.1 with h | ⟨h, _⟩ <;> omega
      refine ML.look rfl rfl rfl (fun w hw => (by have hS := hS1.bel hw; exact opW.moveV (v := (.slice (some ⟨b23, 0, none⟩) (2 * L.cs.length + 1) (2 * L.cs.length + 1))) rfl ⟨rfl, rfl⟩)) ?_
      refine ML.look rfl rfl rfl (fun w hw => (by have hS := hS1.bel hw; exact opW.moveV (v := (elemP lv k (Enc.sz Ring))) rfl ⟨rfl, rfl⟩)) ?_
      refine ML.look rfl rfl rfl (fun w hw => (by have hS := hS1.bel hw; exact opW.nilCheck rfl ((hS.sl (v := lv) (xs := rs) (by first | exact .h0 | exact .h1 | exact .h2 | exact .h3 | exact .h4 | exact .h5 | exact .h6 | exact .h7 | exact .h8 | exact .h9 | exact .h10 | exact .h11 | exact .h12 | exact .h13 | exact .h14)).isP hk) ⟨rfl, rfl⟩)) ?_
      refine ML.look rfl rfl rfl (fun w hw => (by have hS := hS1.bel hw; exact opW.fieldAddr rfl ((hS.sl (v := lv) (xs := rs) (by first | exact .h0 | exact .h1 | exact .h2 | exact .h3 | exact .h4 | exact .h5 | exact .h6 | exact .h7 | exact .h8 | exact .h9 | exact .h10 | exact .h11 | exact .h12 | exact .h13 | exact .h14)).isP hk) ⟨rfl, rfl⟩)) ?_
      refine ML.look rfl rfl rfl (fun w hw => (by have hS := hS1.bel hw; exact opW.loadV rfl (Ld.pt1 (show Pt _ (elemP lv k (Enc.sz Ring)) (Enc.enc L.r) from (congrArg Enc.enc hr) ▸ (hS.sl (v := lv) (xs := rs) (by first | exact .h0 | exact .h1 | exact .h2 | exact .h3 | exact .h4 | exact .h5 | exact .h6 | exact .h7 | exact .h8 | exact .h9 | exact .h10 | exact .h11 | exact .h12 | exact .h13 | exact .h14)).isPt hk) 0 (LnD.at_l L)) ⟨rfl, rfl⟩)) ?_
      refine ML.look rfl rfl rfl (fun w hw => (by have hS := hS1.bel hw; exact opW.moveV (v := (elemP lv k (Enc.sz Ring))) rfl ⟨rfl, rfl⟩)) ?_
      refine ML.look rfl rfl rfl (fun w hw => (by have hS := hS1.bel hw; exact opW.nilCheck rfl ((hS.sl (v := lv) (xs := rs) (by first | exact .h0 | exact .h1 | exact .h2 | exact .h3 | exact .h4 | exact .h5 | exact .h6 | exact .h7 | exact .h8 | exact .h9 | exact .h10 | exact .h11 | exact .h12 | exact .h13 | exact .h14)).isP hk) ⟨rfl, rfl⟩)) ?_
      refine ML.look rfl rfl rfl (fun w hw => (by have hS := hS1.bel hw; exact opW.fieldAddr rfl ((hS.sl (v := lv) (xs := rs) (by first | exact .h0 | exact .h1 | exact .h2 | exact .h3 | exact .h4 | exact .h5 | exact .h6 | exact .h7 | exact .h8 | exact .h9 | exact .h10 | exact .h11 | exact .h12 | exact .h13 | exact .h14)).isP hk) ⟨rfl, rfl⟩)) ?_
      refine ML.look rfl rfl rfl (fun w hw => (by have hS := hS1.bel hw; exact opW.loadV rfl (Ld.pt1 (show Pt _ (elemP lv k (Enc.sz Ring)) (Enc.enc L.r) from (congrArg Enc.enc hr) ▸ (hS.sl (v := lv) (xs := rs) (by first | exact .h0 | exact .h1 | exact .h2 | exact .h3 | exact .h4 | exact .h5 | exact .h6 | exact .h7 | exact .h8 | exact .h9 | exact .h10 | exact .h11 | exact .h12 | exact .h13 | exact .h14)).isPt hk) 1 (LnD.at_from_ L)) ⟨rfl, rfl⟩)) ?_
      refine ML.look rfl rfl rfl (fun w hw => (by have hS := hS1.bel hw; exact opW.cutS (l := L.f) (h' := L.cs.length) (m := capV L.l.v) (hS.sl (v := L.l.v) (xs := L.cs) (by first | exact .h0 | exact .h1 | exact .h2 | exact .h3 | exact .h4 | exact .h5 | exact .h6 | exact .h7 | exact .h8 | exact .h9 | exact .h10 | exact .h11 | exact .h12 | exact .h13 | exact .h14)) ⟨rfl, Nat.le_refl _⟩ ⟨⟨rfl, rfl⟩, (hS.sl (v := L.l.v) (xs := L.cs) (by first | exact .h0 | exact .h1 | exact .h2 | exact .h3 | exact .h4 | exact .h5 | exact .h6 | exact .h7 | exact .h8 | exact .h9 | exact .h10 | exact .h11 | exact .h12 | exact .h13 | exact .h14)).cap⟩ ⟨⟨_, rfl⟩, hfc⟩ ⟨rfl, rfl⟩)) ?_
      refine ML.put1 rfl rfl rfl rfl (opW.copyAt (α := SlV) (v := (.slice (some ⟨b23, 0, none⟩) (2 * L.cs.length + 1) (2 * L.cs.length + 1))) (xs := (List.replicate (2 * L.cs.length + 1) (⟨none, 0, 0⟩ : SlV))) (ys := L.cs.drop L.f) (n := 0) (m := 2 * L.cs.length + 1) hS (by first | exact .h0 | exact .h1 | exact .h2 | exact .h3 | exact .h4 | exact .h5 | exact .h6 | exact .h7 | exact .h8 | exact .h9 | exact .h10 | exact .h11 | exact .h12 | exact .h13 | exact .h14) (by rw [List.length_replicate]; exact full_cut (.inr ⟨b23, _, rfl, Nat.le_refl _, by simp only [maxLen]; omega⟩) _) (by have h9 := (hS.sl (v := L.l.v) (xs := L.cs) (by first | exact .h0 | exact .h1 | exact .h2 | exact .h3 | exact .h4 | exact .h5 | exact .h6 | exact .h7 | exact .h8 | exact .h9 | exact .h10 | exact .h11 | exact .h12 | exact .h13 | exact .h14)).cut (l := L.f) (h := L.cs.length) (m := capV L.l.v) hfc (Nat.le_refl _) (hS.sl (v := L.l.v) (xs := L.cs) (by first | exact .h0 | exact .h1 | exact .h2 | exact .h3 | exact .h4 | exact .h5 | exact .h6 | exact .h7 | exact .h8 | exact .h9 | exact .h10 | exact .h11 | exact .h12 | exact .h13 | exact .h14)).cap (Nat.le_refl _); rw [List.take_length] at h9; exact h9) (by rw [List.length_replicate, List.length_drop]; omega) (by rw [List.length_replicate]; exact Nat.le_refl _) (by exact Nat.le_refl _) ?_)
      intro w hS; replace hS := hS _ (by first | exact .h0 | exact .h1 | exact .h2 | exact .h3 | exact .h4 | exact .h5 | exact .h6 | exact .h7 | exact .h8 | exact .h9 | exact .h10 | exact .h11 | exact .h12 | exact .h13 | exact .h14)
      rw [grow1] at hS
      refine ML.put1 rfl rfl rfl rfl (opW.assignI rfl ?_)
      refine ML.nil ?_
      refine thenQ_n (hK3 _ _ ?_)
      refine WC.seq (fun K4 hK4 => ?_)
      refine WC.draw 12 (.look 0 (.look 1 (.look 2 (.look 3 (.look 4 (.look 5 (.look 6 (.look 7 (.look 8 (.look 9 (.look 10 (.look 11 (.one 12 .nil))))))))))))) (by kernel_rfl) (fun _ _ _ h => h) (fun w1 hw1 => ?_)
      replace hS := hS.bel hw1
      have hS1 := hS
      have hT := St.start w1
      refine ML.look rfl rfl rfl (fun w hw => (by have hS := hS1.bel hw; exact opW.moveV (v := (.slice (some ⟨b23, 0, none⟩) (2 * L.cs.length + 1) (2 * L.cs.length + 1))) rfl ⟨rfl, rfl⟩)) ?_
      refine ML.look rfl rfl rfl (fun w hw => (by have hS := hS1.bel hw; exact opW.moveI rfl ⟨rfl, rfl⟩)) ?_
      refine ML.look rfl rfl rfl (fun w hw => (by have hS := hS1.bel hw; exact opW.cutS (l := (L.cs.drop L.f).length) (h' := 2 * L.cs.length + 1) (m := 2 * L.cs.length + 1) (hS.sl (v := (.slice (some ⟨b23, 0, none⟩) (2 * L.cs.length + 1) (2 * L.cs.length + 1))) (xs := (L.cs.drop L.f ++ List.replicate (2 * L.cs.length + 1 - (L.cs.drop L.f).length) (⟨none, 0, 0⟩ : SlV))) (by first | exact .h0 | exact .h1 | exact .h2 | exact .h3 | exact .h4 | exact .h5 | exact .h6 | exact .h7 | exact .h8 | exact .h9 | exact .h10 | exact .h11 | exact .h12 | exact .h13 | exact .h14)) ⟨rfl, Nat.le_refl _⟩ ⟨⟨by rw [grow1_len], rfl⟩, Nat.le_refl _⟩ ⟨⟨_, rfl⟩, by rw [List.length_drop]; omega⟩ ⟨rfl, rfl⟩)) ?_
      refine ML.look rfl rfl rfl (fun w hw => (by have hS := hS1.bel hw; exact opW.moveV (v := (elemP lv k (Enc.sz Ring))) rfl ⟨rfl, rfl⟩)) ?_
      refine ML.look rfl rfl rfl (fun w hw => (by have hS := hS1.bel hw; exact opW.nilCheck rfl ((hS.sl (v := lv) (xs := rs) (by first | exact .h0 | exact .h1 | exact .h2 | exact .h3 | exact .h4 | exact .h5 | exact .h6 | exact .h7 | exact .h8 | exact .h9 | exact .h10 | exact .h11 | exact .h12 | exact .h13 | exact .h14)).isP hk) ⟨rfl, rfl⟩)) ?_
      refine ML.look rfl rfl rfl (fun w hw => (by have hS := hS1.bel hw; exact opW.fieldAddr rfl ((hS.sl (v := lv) (xs := rs) (by first | exact .h0 | exact .h1 | exact .h2 | exact .h3 | exact .h4 | exact .h5 | exact .h6 | exact .h7 | exact .h8 | exact .h9 | exact .h10 | exact .h11 | exact .h12 | exact .h13 | exact .h14)).isP hk) ⟨rfl, rfl⟩)) ?_
      refine ML.look rfl rfl rfl (fun w hw => (by have hS := hS1.bel hw; exact opW.loadV rfl (Ld.pt1 (show Pt _ (elemP lv k (Enc.sz Ring)) (Enc.enc L.r) from (congrArg Enc.enc hr) ▸ (hS.sl (v := lv) (xs := rs) (by first | exact .h0 | exact .h1 | exact .h2 | exact .h3 | exact .h4 | exact .h5 | exact .h6 | exact .h7 | exact .h8 | exact .h9 | exact .h10 | exact .h11 | exact .h12 | exact .h13 | exact .h14)).isPt hk) 0 (LnD.at_l L)) ⟨rfl, rfl⟩)) ?_
      refine ML.look rfl rfl rfl (fun w hw => (by have hS := hS1.bel hw; exact opW.moveV (v := (elemP lv k (Enc.sz Ring))) rfl ⟨rfl, rfl⟩)) ?_
      refine ML.look rfl rfl rfl (fun w hw => (by have hS := hS1.bel hw; exact opW.nilCheck rfl ((hS.sl (v := lv) (xs := rs) (by first | exact .h0 | exact .h1 | exact .h2 | exact .h3 | exact .h4 | exact .h5 | exact .h6 | exact .h7 | exact .h8 | exact .h9 | exact .h10 | exact .h11 | exact .h12 | exact .h13 | exact .h14)).isP hk) ⟨rfl, rfl⟩)) ?_
      refine ML.look rfl rfl rfl (fun w hw => (by have hS := hS1.bel hw; exact opW.fieldAddr rfl ((hS.sl (v := lv) (xs := rs) (by first | exact .h0 | exact .h1 | exact .h2 | exact .h3 | exact .h4 | exact .h5 | exact .h6 | exact .h7 | exact .h8 | exact .h9 | exact .h10 | exact .h11 | exact .h12 | exact .h13 | exact .h14)).isP hk) ⟨rfl, rfl⟩)) ?_
      refine ML.look rfl rfl rfl (fun w hw => (by have hS := hS1.bel hw; exact opW.loadV rfl (Ld.pt1 (show Pt _ (elemP lv k (Enc.sz Ring)) (Enc.enc L.r) from (congrArg Enc.enc hr) ▸ (hS.sl (v := lv) (xs := rs) (by first | exact .h0 | exact .h1 | exact .h2 | exact .h3 | exact .h4 | exact .h5 | exact .h6 | exact .h7 | exact .h8 | exact .h9 | exact .h10 | exact .h11 | exact .h12 | exact .h13 | exact .h14)).isPt hk) 1 (LnD.at_from_ L)) ⟨rfl, rfl⟩)) ?_
      refine ML.look rfl rfl rfl (fun w hw => (by have hS := hS1.bel hw; exact opW.cutS (l := 0) (h' := L.f) (m := capV L.l.v) (hS.sl (v := L.l.v) (xs := L.cs) (by first | exact .h0 | exact .h1 | exact .h2 | exact .h3 | exact .h4 | exact .h5 | exact .h6 | exact .h7 | exact .h8 | exact .h9 | exact .h10 | exact .h11 | exact .h12 | exact .h13 | exact .h14)) ⟨rfl, Nat.le_refl _⟩ ⟨⟨_, rfl⟩, Nat.le_trans hfc (hS.sl (v := L.l.v) (xs := L.cs) (by first | exact .h0 | exact .h1 | exact .h2 | exact .h3 | exact .h4 | exact .h5 | exact .h6 | exact .h7 | exact .h8 | exact .h9 | exact .h10 | exact .h11 | exact .h12 | exact .h13 | exact .h14)).cap⟩ ⟨rfl, Nat.zero_le _⟩ ⟨rfl, rfl⟩)) ?_
      refine ML.put1 rfl rfl rfl rfl (opW.copyAt (α := SlV) (v := (.slice (some ⟨b23, 0, none⟩) (2 * L.cs.length + 1) (2 * L.cs.length + 1))) (xs := (L.cs.drop L.f ++ List.replicate (2 * L.cs.length + 1 - (L.cs.drop L.f).length) (⟨none, 0, 0⟩ : SlV))) (ys := L.cs.take L.f) (n := (L.cs.drop L.f).length) (m := 2 * L.cs.length + 1) hS (by first | exact .h0 | exact .h1 | exact .h2 | exact .h3 | exact .h4 | exact .h5 | exact .h6 | exact .h7 | exact .h8 | exact .h9 | exact .h10 | exact .h11 | exact .h12 | exact .h13 | exact .h14) (by rw [grow1_len]; rfl) ((hS.sl (v := L.l.v) (xs := L.cs) (by first | exact .h0 | exact .h1 | exact .h2 | exact .h3 | exact .h4 | exact .h5 | exact .h6 | exact .h7 | exact .h8 | exact .h9 | exact .h10 | exact .h11 | exact .h12 | exact .h13 | exact .h14)).front hfc (Nat.le_trans hfc (hS.sl (v := L.l.v) (xs := L.cs) (by first | exact .h0 | exact .h1 | exact .h2 | exact .h3 | exact .h4 | exact .h5 | exact .h6 | exact .h7 | exact .h8 | exact .h9 | exact .h10 | exact .h11 | exact .h12 | exact .h13 | exact .h14)).cap) (Nat.le_refl _)) (by rw [grow1_len, List.length_drop, List.length_take]; omega) (by rw [grow1_len]; exact Nat.le_refl _) (by exact Nat.le_refl _) ?_)
      intro w hS; replace hS := hS _ (by first | exact .h0 | exact .h1 | exact .h2 | exact .h3 | exact .h4 | exact .h5 | exact .h6 | exact .h7 | exact .h8 | exact .h9 | exact .h10 | exact .h11 | exact .h12 | exact .h13 | exact .h14)
      rw [grow2 hfc] at hS
      refine ML.nil ?_
      obtain ⟨sn, hsn⟩ : ∃ sn : SlV, (.slice (some ⟨b23, 0, none⟩) (2 * L.cs.length + 1) (2 * L.cs.length + 1)) = sn.v := ⟨⟨some ⟨b23, 0, none⟩, 2 * L.cs.length + 1, 2 * L.cs.length + 1⟩, rfl⟩
      rw [hsn] at hS ⊢
      refine thenQ_n (hK4 _ _ ?_)
      refine WC.region ?_
      refine WL.op rfl (opW.moveV (v := (elemP lv k (Enc.sz Ring))) rfl ?_)
      refine WL.op rfl (opW.moveV (v := (elemP lv k (Enc.sz Ring))) rfl ?_)
      refine WL.op rfl (opW.moveV (v := sn.v) rfl ?_)
      refine WL.op rfl (opW.nilCheck rfl ((hS.sl (v := lv) (xs := rs) (by first | exact .h0 | exact .h1 | exact .h2 | exact .h3 | exact .h4 | exact .h5 | exact .h6 | exact .h7 | exact .h8 | exact .h9 | exact .h10 | exact .h11 | exact .h12 | exact .h13 | exact .h14)).isP hk) ?_)
      refine WL.op rfl (opW.fieldAddr rfl ((hS.sl (v := lv) (xs := rs) (by first | exact .h0 | exact .h1 | exact .h2 | exact .h3 | exact .h4 | exact .h5 | exact .h6 | exact .h7 | exact .h8 | exact .h9 | exact .h10 | exact .h11 | exact .h12 | exact .h13 | exact .h14)).isP hk) ?_)
      refine WL.op0 (opW.storeOwn (v := lv) (u := sn.v) (sz := 1) (xs := rs) (i := k) (off := 0) (y' := ⟨sn, (L.f : Int), (L.q.length : Int)⟩) hS (by first | exact .h0 | exact .h1 | exact .h2 | exact .h3 | exact .h4 | exact .h5 | exact .h6 | exact .h7 | exact .h8 | exact .h9 | exact .h10 | exact .h11 | exact .h12 | exact .h13 | exact .h14) hk rfl rfl rfl (by decide) (Enc.one (α := SlV) sn) (by rw [hr]; exact Ring.set_l L.r sn) ?_)
      intro w hS; replace hS := hS _ (by first | exact .h0 | exact .h1 | exact .h2 | exact .h3 | exact .h4 | exact .h5 | exact .h6 | exact .h7 | exact .h8 | exact .h9 | exact .h10 | exact .h11 | exact .h12 | exact .h13 | exact .h14)
      have hk1 : k < (rs.set k ⟨sn, (L.f : Int), (L.q.length : Int)⟩).length := by rw [List.length_set]; exact hk
      have hg1 : (rs.set k ⟨sn, (L.f : Int), (L.q.length : Int)⟩)[k] = ⟨sn, (L.f : Int), (L.q.length : Int)⟩ := List.getElem_set_self hk1
      refine WL.op rfl (opW.nilCheck rfl ((hS.sl (v := lv) (xs := (rs.set k ⟨sn, (L.f : Int), (L.q.length : Int)⟩)) (by first | exact .h0 | exact .h1 | exact .h2 | exact .h3 | exact .h4 | exact .h5 | exact .h6 | exact .h7 | exact .h8 | exact .h9 | exact .h10 | exact .h11 | exact .h12 | exact .h13 | exact .h14)).isP hk1) ?_)
      refine WL.op rfl (opW.fieldAddr rfl ((hS.sl (v := lv) (xs := (rs.set k ⟨sn, (L.f : Int), (L.q.length : Int)⟩)) (by first | exact .h0 | exact .h1 | exact .h2 | exact .h3 | exact .h4 | exact .h5 | exact .h6 | exact .h7 | exact .h8 | exact .h9 | exact .h10 | exact .h11 | exact .h12 | exact .h13 | exact .h14)).isP hk1) ?_)
      refine WL.op0 (opW.storeOwn (v := lv) (u := .int .i64 0) (sz := 1) (xs := (rs.set k ⟨sn, (L.f : Int), (L.q.length : Int)⟩)) (i := k) (off := 1) (y' := ⟨sn, 0, (L.q.length : Int)⟩) hS (by first | exact .h0 | exact .h1 | exact .h2 | exact .h3 | exact .h4 | exact .h5 | exact .h6 | exact .h7 | exact .h8 | exact .h9 | exact .h10 | exact .h11 | exact .h12 | exact .h13 | exact .h14) hk1 rfl rfl rfl (by decide) (one_int _ _) (by rw [hg1]; exact Ring.set_from_ (⟨sn, (L.f : Int), (L.q.length : Int)⟩ : Ring) 0) ?_)
      intro w hS; replace hS := hS _ (by first | exact .h0 | exact .h1 | exact .h2 | exact .h3 | exact .h4 | exact .h5 | exact .h6 | exact .h7 | exact .h8 | exact .h9 | exact .h10 | exact .h11 | exact .h12 | exact .h13 | exact .h14)
      rw [List.set_set] at hS
      refine WL.nil ?_
      refine thenQ_n ?_
      first | exact ⟨⟨sn, 0, growL L.cs L.f, L.q⟩, _, ⟨rfl, rfl, trivial⟩, ((hS.pick (e := ownE sn.v 32 (growL L.cs L.f)) (by first | exact .h0 | exact .h1 | exact .h2 | exact .h3 | exact .h4 | exact .h5 | exact .h6 | exact .h7 | exact .h8 | exact .h9 | exact .h10 | exact .h11 | exact .h12 | exact .h13 | exact .h14)).pick (e := ownE lv 57 _) (by first | exact .h0 | exact .h1 | exact .h2 | exact .h3 | exact .h4 | exact .h5 | exact .h6 | exact .h7 | exact .h8 | exact .h9 | exact .h10 | exact .h11 | exact .h12 | exact .h13 | exact .h14)).sub (.cons₂ _ (.cons₂ _ (.cons _ (List.Sublist.refl _)))), growL_ok hok hfull (by omega) sn, rfl, by rw [growL_len]; show L.q.length < _; omega, rfl⟩ | exact ⟨L, rs, ⟨rfl, rfl, trivial⟩, hS, hok, rfl, by have := hok.1; omega, (by rw [← hr]; exact (List.set_getElem_self hk).symm)⟩
    ·
      have hr0 := hc0
      try simp only [decide_eq_true_eq, decide_eq_false_iff_not, Bool.and_eq_true, Bool.or_eq_true, Bool.and_eq_false_iff, Bool.or_eq_false_iff, Bool.not_eq_true', Bool.not_eq_false', Int.not_lt, Int.not_le] at hc0
      refine WC.skip ?_
      refine thenQ_n ?_
      first | exact ⟨⟨sn, 0, growL L.cs L.f, L.q⟩, _, ⟨rfl, rfl, trivial⟩, ((hS.pick (e := ownE sn.v 32 (growL L.cs L.f)) (by first | exact .h0 | exact .h1 | exact .h2 | exact .h3 | exact .h4 | exact .h5 | exact .h6 | exact .h7 | exact .h8 | exact .h9 | exact .h10 | exact .h11 | exact .h12 | exact .h13 | exact .h14)).pick (e := ownE lv 57 _) (by first | exact .h0 | exact .h1 | exact .h2 | exact .h3 | exact .h4 | exact .h5 | exact .h6 | exact .h7 | exact .h8 | exact .h9 | exact .h10 | exact .h11 | exact .h12 | exact .h13 | exact .h14)).sub (.cons₂ _ (.cons₂ _ (.cons _ (List.Sublist.refl _)))), growL_ok hok hfull (by omega) sn, rfl, by rw [growL_len]; show L.q.length < _; omega, rfl⟩ | exact ⟨L, rs, ⟨rfl, rfl, trivial⟩, hS, hok, rfl, by have := hok.1; omega, (by rw [← hr]; exact (List.set_getElem_self hk).symm)⟩
  ·
    rintro f w ⟨L1, rs1, hfit, hS, hok1, hq1, hroom, hrs1⟩
    refine WC.fits _ hfit (fun g => ?_)
    clear hfit
    refine WC.seq (fun K5 hK5 => ?_)
    refine WC.region ?_
    subst hrs1
    have hk1 : k < (rs.set k L1.r).length := by rw [List.length_set]; exact hk
    have hg1 : (rs.set k L1.r)[k] = L1.r := List.getElem_set_self hk1
    have hk2 : k < (rs.set k (⟨L1.l, L1.f, L1.cs, L1.q ++ [(b, xs)]⟩ : LnD).r).length := by rw [List.length_set]; exact hk
    have hg2 : (rs.set k (⟨L1.l, L1.f, L1.cs, L1.q ++ [(b, xs)]⟩ : LnD).r)[k] = (⟨L1.l, L1.f, L1.cs, L1.q ++ [(b, xs)]⟩ : LnD).r := List.getElem_set_self hk2
    have hc1 := hok1.2.1
    have hf1 : L1.f < L1.cs.length := by have := hok1.2.2.1; omega
    have hlq : L1.q.length = L.q.length := by rw [hq1]
    refine WL.op rfl (opW.moveV (v := (elemP lv k (Enc.sz Ring))) rfl ?_)
    refine WL.op rfl (opW.nilCheck rfl ((hS.sl (v := lv) (xs := (rs.set k L1.r)) (by first | exact .h0 | exact .h1 | exact .h2 | exact .h3 | exact .h4 | exact .h5 | exact .h6 | exact .h7 | exact .h8 | exact .h9 | exact .h10 | exact .h11 | exact .h12 | exact .h13 | exact .h14)).isP hk1) ?_)
    refine WL.op rfl (opW.fieldAddr rfl ((hS.sl (v := lv) (xs := (rs.set k L1.r)) (by first | exact .h0 | exact .h1 | exact .h2 | exact .h3 | exact .h4 | exact .h5 | exact .h6 | exact .h7 | exact .h8 | exact .h9 | exact .h10 | exact .h11 | exact .h12 | exact .h13 | exact .h14)).isP hk1) ?_)
    refine WL.op rfl (opW.loadV rfl (Ld.pt1 (show Pt _ (elemP lv k (Enc.sz Ring)) (Enc.enc L1.r) from (congrArg Enc.enc hg1) ▸ (hS.sl (v := lv) (xs := (rs.set k L1.r)) (by first | exact .h0 | exact .h1 | exact .h2 | exact .h3 | exact .h4 | exact .h5 | exact .h6 | exact .h7 | exact .h8 | exact .h9 | exact .h10 | exact .h11 | exact .h12 | exact .h13 | exact .h14)).isPt hk1) 2 (LnD.at_many L1)) ?_)
    refine WL.op rfl (opW.add rfl rfl ((wrap_i64 (by omega)).trans (by simp : _ = ((L1.q ++ [(b, xs)]).length : Int))) ?_)
    refine WL.op rfl (opW.nilCheck rfl ((hS.sl (v := lv) (xs := (rs.set k L1.r)) (by first | exact .h0 | exact .h1 | exact .h2 | exact .h3 | exact .h4 | exact .h5 | exact .h6 | exact .h7 | exact .h8 | exact .h9 | exact .h10 | exact .h11 | exact .h12 | exact .h13 | exact .h14)).isP hk1) ?_)
    refine WL.op rfl (opW.fieldAddr rfl ((hS.sl (v := lv) (xs := (rs.set k L1.r)) (by first | exact .h0 | exact .h1 | exact .h2 | exact .h3 | exact .h4 | exact .h5 | exact .h6 | exact .h7 | exact .h8 | exact .h9 | exact .h10 | exact .h11 | exact .h12 | exact .h13 | exact .h14)).isP hk1) ?_)
    refine WL.op0 (opW.storeOwn (v := lv) (u := .int .i64 ((L1.q ++ [(b, xs)]).length : Int)) (sz := 1) (xs := (rs.set k L1.r)) (i := k) (off := 2) (y' := (⟨L1.l, L1.f, L1.cs, L1.q ++ [(b, xs)]⟩ : LnD).r) hS (by first | exact .h0 | exact .h1 | exact .h2 | exact .h3 | exact .h4 | exact .h5 | exact .h6 | exact .h7 | exact .h8 | exact .h9 | exact .h10 | exact .h11 | exact .h12 | exact .h13 | exact .h14) hk1 rfl rfl rfl (by decide) (one_int _ _) (by rw [hg1]; exact Ring.set_many L1.r _) ?_)
    intro w hS; replace hS := hS _ (by first | exact .h0 | exact .h1 | exact .h2 | exact .h3 | exact .h4 | exact .h5 | exact .h6 | exact .h7 | exact .h8 | exact .h9 | exact .h10 | exact .h11 | exact .h12 | exact .h13 | exact .h14)
    rw [List.set_set] at hS
    refine WL.nil ?_
    refine thenQ_n (hK5 _ _ ?_)
    refine WC.draw 12 (.look 0 (.look 1 (.look 2 (.look 3 (.look 4 (.look 5 (.look 6 (.look 7 (.look 8 (.look 9 (.look 11 (.one 10 (.one 12 (.one 13 .nil)))))))))))))) (by kernel_rfl) (fun _ _ _ h => h) (fun w1 hw1 => ?_)
    replace hS := hS.bel hw1
    have hS1 := hS
    have hT := St.start w1
    have hj : ((L1.f + L1.q.length) % L1.cs.length) < L1.cs.length := Nat.mod_lt _ (by omega)
    refine ML.look rfl rfl rfl (fun w hw => (by have hS := hS1.bel hw; exact opW.moveV (v := (elemP lv k (Enc.sz Ring))) rfl ⟨rfl, rfl⟩)) ?_
    refine ML.look rfl rfl rfl (fun w hw => (by have hS := hS1.bel hw; exact opW.nilCheck rfl ((hS.sl (v := lv) (xs := (rs.set k (⟨L1.l, L1.f, L1.cs, L1.q ++ [(b, xs)]⟩ : LnD).r)) (by first | exact .h0 | exact .h1 | exact .h2 | exact .h3 | exact .h4 | exact .h5 | exact .h6 | exact .h7 | exact .h8 | exact .h9 | exact .h10 | exact .h11 | exact .h12 | exact .h13 | exact .h14)).isP hk2) ⟨rfl, rfl⟩)) ?_
    refine ML.look rfl rfl rfl (fun w hw => (by have hS := hS1.bel hw; exact opW.fieldAddr rfl ((hS.sl (v := lv) (xs := (rs.set k (⟨L1.l, L1.f, L1.cs, L1.q ++ [(b, xs)]⟩ : LnD).r)) (by first | exact .h0 | exact .h1 | exact .h2 | exact .h3 | exact .h4 | exact .h5 | exact .h6 | exact .h7 | exact .h8 | exact .h9 | exact .h10 | exact .h11 | exact .h12 | exact .h13 | exact .h14)).isP hk2) ⟨rfl, rfl⟩)) ?_
    refine ML.look rfl rfl rfl (fun w hw => (by have hS := hS1.bel hw; exact opW.loadV rfl (Ld.pt1 (show Pt _ (elemP lv k (Enc.sz Ring)) (Enc.enc (⟨L1.l, L1.f, L1.cs, L1.q ++ [(b, xs)]⟩ : LnD).r) from (congrArg Enc.enc hg2) ▸ (hS.sl (v := lv) (xs := (rs.set k (⟨L1.l, L1.f, L1.cs, L1.q ++ [(b, xs)]⟩ : LnD).r)) (by first | exact .h0 | exact .h1 | exact .h2 | exact .h3 | exact .h4 | exact .h5 | exact .h6 | exact .h7 | exact .h8 | exact .h9 | exact .h10 | exact .h11 | exact .h12 | exact .h13 | exact .h14)).isPt hk2) 0 (LnD.at_l (⟨L1.l, L1.f, L1.cs, L1.q ++ [(b, xs)]⟩ : LnD))) ⟨rfl, rfl⟩)) ?_
    refine ML.look rfl rfl rfl (fun w hw => (by have hS := hS1.bel hw; exact opW.moveV (v := (elemP lv k (Enc.sz Ring))) rfl ⟨rfl, rfl⟩)) ?_
    refine ML.look rfl rfl rfl (fun w hw => (by have hS := hS1.bel hw; exact opW.moveV (v := (elemP lv k (Enc.sz Ring))) rfl ⟨rfl, rfl⟩)) ?_
    refine ML.look rfl rfl rfl (fun w hw => (by have hS := hS1.bel hw; exact opW.nilCheck rfl ((hS.sl (v := lv) (xs := (rs.set k (⟨L1.l, L1.f, L1.cs, L1.q ++ [(b, xs)]⟩ : LnD).r)) (by first | exact .h0 | exact .h1 | exact .h2 | exact .h3 | exact .h4 | exact .h5 | exact .h6 | exact .h7 | exact .h8 | exact .h9 | exact .h10 | exact .h11 | exact .h12 | exact .h13 | exact .h14)).isP hk2) ⟨rfl, rfl⟩)) ?_
    refine ML.look rfl rfl rfl (fun w hw => (by have hS := hS1.bel hw; exact opW.fieldAddr rfl ((hS.sl (v := lv) (xs := (rs.set k (⟨L1.l, L1.f, L1.cs, L1.q ++ [(b, xs)]⟩ : LnD).r)) (by first | exact .h0 | exact .h1 | exact .h2 | exact .h3 | exact .h4 | exact .h5 | exact .h6 | exact .h7 | exact .h8 | exact .h9 | exact .h10 | exact .h11 | exact .h12 | exact .h13 | exact .h14)).isP hk2) ⟨rfl, rfl⟩)) ?_
    refine ML.look rfl rfl rfl (fun w hw => (by have hS := hS1.bel hw; exact opW.loadV rfl (Ld.pt1 (show Pt _ (elemP lv k (Enc.sz Ring)) (Enc.enc (⟨L1.l, L1.f, L1.cs, L1.q ++ [(b, xs)]⟩ : LnD).r) from (congrArg Enc.enc hg2) ▸ (hS.sl (v := lv) (xs := (rs.set k (⟨L1.l, L1.f, L1.cs, L1.q ++ [(b, xs)]⟩ : LnD).r)) (by first | exact .h0 | exact .h1 | exact .h2 | exact .h3 | exact .h4 | exact .h5 | exact .h6 | exact .h7 | exact .h8 | exact .h9 | exact .h10 | exact .h11 | exact .h12 | exact .h13 | exact .h14)).isPt hk2) 2 (LnD.at_many (⟨L1.l, L1.f, L1.cs, L1.q ++ [(b, xs)]⟩ : LnD))) ⟨rfl, rfl⟩)) ?_
    refine ML.look rfl rfl rfl (fun w hw => (by have hS := hS1.bel hw; exact opW.sub rfl rfl ((wrap_i64 (by simp; omega)).trans (by simp : _ = (L1.q.length : Int))) ⟨rfl, rfl⟩)) ?_
    refine ML.look rfl rfl rfl (fun w hw => (by have hS := hS1.bel hw; exact opW.moveV (v := b.v) rfl ⟨rfl, rfl⟩)) ?_
    refine ML.one rfl rfl rfl (opW.call (at_ok _ (elemP lv k (Enc.sz Ring)) (⟨L1.l, L1.f, L1.cs, L1.q ++ [(b, xs)]⟩ : LnD) L1.q.length (show Pt _ (elemP lv k (Enc.sz Ring)) (Enc.enc (⟨L1.l, L1.f, L1.cs, L1.q ++ [(b, xs)]⟩ : LnD).r) from (congrArg Enc.enc hg2) ▸ (hS.sl (v := lv) (xs := (rs.set k (⟨L1.l, L1.f, L1.cs, L1.q ++ [(b, xs)]⟩ : LnD).r)) (by first | exact .h0 | exact .h1 | exact .h2 | exact .h3 | exact .h4 | exact .h5 | exact .h6 | exact .h7 | exact .h8 | exact .h9 | exact .h10 | exact .h11 | exact .h12 | exact .h13 | exact .h14)).isPt hk2) (hS.sl (v := L1.l.v) (xs := L1.cs) (by first | exact .h0 | exact .h1 | exact .h2 | exact .h3 | exact .h4 | exact .h5 | exact .h6 | exact .h7 | exact .h8 | exact .h9 | exact .h10 | exact .h11 | exact .h12 | exact .h13 | exact .h14)) (by show 0 < L1.cs.length; omega) hc1 (by show L1.f ≤ 4001; omega) (by omega)) rfl ?_)
    rintro v72 w ⟨h72, hw⟩; replace hT := hT.bel hw; replace h72 : v72 = .int .i64 (((L1.f + L1.q.length) % L1.cs.length : Nat) : Int) := h72; subst h72
    refine ⟨hT.old, ?_⟩
    have hS := hS1.merge hT
    try simp only [List.cons_append, List.nil_append] at hS
    refine ML.put1 rfl rfl rfl rfl (opW.idxV rfl (hS.sl (v := L1.l.v) (xs := L1.cs) (by first | exact .h0 | exact .h1 | exact .h2 | exact .h3 | exact .h4 | exact .h5 | exact .h6 | exact .h7 | exact .h8 | exact .h9 | exact .h10 | exact .h11 | exact .h12 | exact .h13 | exact .h14)) rfl (by omega) ?_)
    refine ML.put0 rfl rfl rfl (opW.storeOwn (v := L1.l.v) (u := b.v) (sz := 1) (xs := L1.cs) (i := ((L1.f + L1.q.length) % L1.cs.length)) (off := 0) (y' := b) hS (by first | exact .h0 | exact .h1 | exact .h2 | exact .h3 | exact .h4 | exact .h5 | exact .h6 | exact .h7 | exact .h8 | exact .h9 | exact .h10 | exact .h11 | exact .h12 | exact .h13 | exact .h14) hj (ptrAdd_zero L1.l.v ((L1.f + L1.q.length) % L1.cs.length) (Enc.sz SlV)).symm rfl (by rfl) (by decide) (Enc.one (α := SlV) b) (spl_all (by rfl)) ?_)
    intro w hS; replace hS := hS _ (by first | exact .h0 | exact .h1 | exact .h2 | exact .h3 | exact .h4 | exact .h5 | exact .h6 | exact .h7 | exact .h8 | exact .h9 | exact .h10 | exact .h11 | exact .h12 | exact .h13 | exact .h14)
    refine ML.nil ?_
    refine bodyQ_end .nil ?_
    refine ⟨⟨L1.l, L1.f, L1.cs.set ((L1.f + L1.q.length) % L1.cs.length) b, L1.q ++ [(b, xs)]⟩, by rw [hq1], push_ok hok1 (by omega) (b, xs), hS⟩

set_option maxRecDepth 20000 in
set_option maxHeartbeats 4000000 in
theorem pop_ok_ (wb w0 : World) (S : List Ent) (lv : Value) (rs : List Ring) (k : Nat) (L : LnD) (hk : k < rs.length) (hr : rs[k] = L.r) (hok : LnOk L) (hS0 : St wb (ownE lv 57 rs :: ownE L.l.v 32 L.cs :: S) w0) : Ret Try.prog 22 #[(elemP lv k (Enc.sz Ring))] w0 (fun u w' => ∃ L', L'.q = L.q.tail ∧ LnOk L' ∧ u = .tuple #[(L.q.headD (⟨none, 0, 0⟩, [])).1.v, .bool (!L.q.isEmpty)] ∧ St wb (ownE lv 57 (rs.set k L'.r) :: ownE L'.l.v 32 L'.cs :: S) w') := by
  refine Ret.enter (args := [(elemP lv k (Enc.sz Ring))]) Try.func22 rfl Try.ntmps22 Try.results22 rfl ?_
  have hS := St.start w0
  replace hS := hS0
  have hcl := hok.2.1
  have hqc := hok.1
  refine WC.seq (fun K1 hK1 => ?_)
  refine WC.region ?_
  refine WL.op rfl (opW.assignV (v := .slice none 0 0) rfl ?_)
  refine WL.op rfl (opW.assignB rfl ?_)
  refine WL.nil ?_
  refine thenQ_n (hK1 _ _ ?_)
  refine WC.seq (fun K2 hK2 => ?_)
  refine WC.seq (fun K3 hK3 => ?_)
  refine WC.region ?_
  refine WL.op rfl (opW.moveV (v := (elemP lv k (Enc.sz Ring))) rfl ?_)
  refine WL.op rfl (opW.nilCheck rfl ((hS.sl (v := lv) (xs := rs) (by first | exact .h0 | exact .h1 | exact .h2 | exact .h3 | exact .h4 | exact .h5 | exact .h6 | exact .h7 | exact .h8 | exact .h9 | exact .h10 | exact .h11 | exact .h12 | exact .h13 | exact .h14)).isP hk) ?_)
  refine WL.op rfl (opW.fieldAddr rfl ((hS.sl (v := lv) (xs := rs) (by first | exact .h0 | exact .h1 | exact .h2 | exact .h3 | exact .h4 | exact .h5 | exact .h6 | exact .h7 | exact .h8 | exact .h9 | exact .h10 | exact .h11 | exact .h12 | exact .h13 | exact .h14)).isP hk) ?_)
  refine WL.op rfl (opW.loadV rfl (Ld.pt1 (show Pt _ (elemP lv k (Enc.sz Ring)) (Enc.enc L.r) from (congrArg Enc.enc hr) ▸ (hS.sl (v := lv) (xs := rs) (by first | exact .h0 | exact .h1 | exact .h2 | exact .h3 | exact .h4 | exact .h5 | exact .h6 | exact .h7 | exact .h8 | exact .h9 | exact .h10 | exact .h11 | exact .h12 | exact .h13 | exact .h14)).isPt hk) 2 (LnD.at_many L)) ?_)
  refine WL.op rfl (opW.eql rfl rfl ?_)
  refine WL.nil ?_
  refine thenQ_n (hK3 _ _ ?_)
  refine WC.cond _ rfl (fun hc0 => ?_) (fun hc0 => ?_)
  ·
    have hr0 := hc0
    try simp only [decide_eq_true_eq, decide_eq_false_iff_not, Bool.and_eq_true, Bool.or_eq_true, Bool.and_eq_false_iff, Bool.or_eq_false_iff, Bool.not_eq_true', Bool.not_eq_false', Int.not_lt, Int.not_le] at hc0
    refine WC.seq (fun K4 hK4 => ?_)
    refine WC.region ?_
    refine WL.op rfl (opW.moveV (v := .slice none 0 0) rfl ?_)
    refine WL.op rfl (opW.assignV (v := .slice none 0 0) rfl ?_)
    refine WL.op rfl (opW.assignB rfl ?_)
    refine WL.nil ?_
    refine thenQ_n (hK4 _ _ ?_)
    refine WC.ret ?_
    refine thenQ_r ?_
    refine bodyQ_ret (.tmpV (v := .slice none 0 0) rfl (.tmpB rfl .nil)) ?_
    have h0 : L.q = [] := List.length_eq_zero_iff.1 (by omega)
    rw [h0]
    exact ⟨L, by rw [h0]; rfl, hok, rfl, by rw [← hr, List.set_getElem_self]; exact hS⟩
  ·
    have hr0 := hc0
    try simp only [decide_eq_true_eq, decide_eq_false_iff_not, Bool.and_eq_true, Bool.or_eq_true, Bool.and_eq_false_iff, Bool.or_eq_false_iff, Bool.not_eq_true', Bool.not_eq_false', Int.not_lt, Int.not_le] at hc0
    obtain ⟨b, q, hq⟩ : ∃ b q, L.q = b :: q := by
      cases hL : L.q with
      | nil => rw [hL] at hr0; simp at hr0
      | cons b q => exact ⟨b, q, rfl⟩
    obtain ⟨hok2, hf, hgf⟩ := pop_ok hok hq
    have hgf2 : L.cs[L.f] = b.1 := by rw [List.getElem?_eq_getElem hf] at hgf; exact Option.some.inj hgf
    refine WC.skip ?_
    refine thenQ_n (hK2 _ _ ?_)
    refine WC.seq (fun K5 hK5 => ?_)
    refine WC.draw 21 (.look 0 (.look 1 (.look 2 (.look 3 (.look 4 (.look 5 (.look 6 (.look 7 (.look 8 (.look 9 (.look 10 (.look 11 (.look 12 (.look 13 (.look 14 (.look 15 (.look 16 (.look 17 (.look 18 (.look 19 (.look 20 (.one 21 .nil)))))))))))))))))))))) (by kernel_rfl) (fun _ _ _ h => h) (fun w1 hw1 => ?_)
    replace hS := hS.bel hw1
    have hS1 := hS
    have hT := St.start w1
    refine ML.look rfl rfl rfl (fun w hw => (by have hS := hS1.bel hw; exact opW.moveV (v := (elemP lv k (Enc.sz Ring))) rfl ⟨rfl, rfl⟩)) ?_
    refine ML.look rfl rfl rfl (fun w hw => (by have hS := hS1.bel hw; exact opW.nilCheck rfl ((hS.sl (v := lv) (xs := rs) (by first | exact .h0 | exact .h1 | exact .h2 | exact .h3 | exact .h4 | exact .h5 | exact .h6 | exact .h7 | exact .h8 | exact .h9 | exact .h10 | exact .h11 | exact .h12 | exact .h13 | exact .h14)).isP hk) ⟨rfl, rfl⟩)) ?_
    refine ML.look rfl rfl rfl (fun w hw => (by have hS := hS1.bel hw; exact opW.fieldAddr rfl ((hS.sl (v := lv) (xs := rs) (by first | exact .h0 | exact .h1 | exact .h2 | exact .h3 | exact .h4 | exact .h5 | exact .h6 | exact .h7 | exact .h8 | exact .h9 | exact .h10 | exact .h11 | exact .h12 | exact .h13 | exact .h14)).isP hk) ⟨rfl, rfl⟩)) ?_
    refine ML.look rfl rfl rfl (fun w hw => (by have hS := hS1.bel hw; exact opW.loadV rfl (Ld.pt1 (show Pt _ (elemP lv k (Enc.sz Ring)) (Enc.enc L.r) from (congrArg Enc.enc hr) ▸ (hS.sl (v := lv) (xs := rs) (by first | exact .h0 | exact .h1 | exact .h2 | exact .h3 | exact .h4 | exact .h5 | exact .h6 | exact .h7 | exact .h8 | exact .h9 | exact .h10 | exact .h11 | exact .h12 | exact .h13 | exact .h14)).isPt hk) 0 (LnD.at_l L)) ⟨rfl, rfl⟩)) ?_
    refine ML.look rfl rfl rfl (fun w hw => (by have hS := hS1.bel hw; exact opW.moveV (v := (elemP lv k (Enc.sz Ring))) rfl ⟨rfl, rfl⟩)) ?_
    refine ML.look rfl rfl rfl (fun w hw => (by have hS := hS1.bel hw; exact opW.nilCheck rfl ((hS.sl (v := lv) (xs := rs) (by first | exact .h0 | exact .h1 | exact .h2 | exact .h3 | exact .h4 | exact .h5 | exact .h6 | exact .h7 | exact .h8 | exact .h9 | exact .h10 | exact .h11 | exact .h12 | exact .h13 | exact .h14)).isP hk) ⟨rfl, rfl⟩)) ?_
    refine ML.look rfl rfl rfl (fun w hw => (by have hS := hS1.bel hw; exact opW.fieldAddr rfl ((hS.sl (v := lv) (xs := rs) (by first | exact .h0 | exact .h1 | exact .h2 | exact .h3 | exact .h4 | exact .h5 | exact .h6 | exact .h7 | exact .h8 | exact .h9 | exact .h10 | exact .h11 | exact .h12 | exact .h13 | exact .h14)).isP hk) ⟨rfl, rfl⟩)) ?_
    refine ML.look rfl rfl rfl (fun w hw => (by have hS := hS1.bel hw; exact opW.loadV rfl (Ld.pt1 (show Pt _ (elemP lv k (Enc.sz Ring)) (Enc.enc L.r) from (congrArg Enc.enc hr) ▸ (hS.sl (v := lv) (xs := rs) (by first | exact .h0 | exact .h1 | exact .h2 | exact .h3 | exact .h4 | exact .h5 | exact .h6 | exact .h7 | exact .h8 | exact .h9 | exact .h10 | exact .h11 | exact .h12 | exact .h13 | exact .h14)).isPt hk) 1 (LnD.at_from_ L)) ⟨rfl, rfl⟩)) ?_
    refine ML.look rfl rfl rfl (fun w hw => (by have hS := hS1.bel hw; exact opW.moveV (v := (elemP lv k (Enc.sz Ring))) rfl ⟨rfl, rfl⟩)) ?_
    refine ML.look rfl rfl rfl (fun w hw => (by have hS := hS1.bel hw; exact opW.nilCheck rfl ((hS.sl (v := lv) (xs := rs) (by first | exact .h0 | exact .h1 | exact .h2 | exact .h3 | exact .h4 | exact .h5 | exact .h6 | exact .h7 | exact .h8 | exact .h9 | exact .h10 | exact .h11 | exact .h12 | exact .h13 | exact .h14)).isP hk) ⟨rfl, rfl⟩)) ?_
    refine ML.look rfl rfl rfl (fun w hw => (by have hS := hS1.bel hw; exact opW.fieldAddr rfl ((hS.sl (v := lv) (xs := rs) (by first | exact .h0 | exact .h1 | exact .h2 | exact .h3 | exact .h4 | exact .h5 | exact .h6 | exact .h7 | exact .h8 | exact .h9 | exact .h10 | exact .h11 | exact .h12 | exact .h13 | exact .h14)).isP hk) ⟨rfl, rfl⟩)) ?_
    refine ML.look rfl rfl rfl (fun w hw => (by have hS := hS1.bel hw; exact opW.loadV rfl (Ld.pt1 (show Pt _ (elemP lv k (Enc.sz Ring)) (Enc.enc L.r) from (congrArg Enc.enc hr) ▸ (hS.sl (v := lv) (xs := rs) (by first | exact .h0 | exact .h1 | exact .h2 | exact .h3 | exact .h4 | exact .h5 | exact .h6 | exact .h7 | exact .h8 | exact .h9 | exact .h10 | exact .h11 | exact .h12 | exact .h13 | exact .h14)).isPt hk) 0 (LnD.at_l L)) ⟨rfl, rfl⟩)) ?_
    refine ML.look rfl rfl rfl (fun w hw => (by have hS := hS1.bel hw; exact opW.moveV (v := (elemP lv k (Enc.sz Ring))) rfl ⟨rfl, rfl⟩)) ?_
    refine ML.look rfl rfl rfl (fun w hw => (by have hS := hS1.bel hw; exact opW.nilCheck rfl ((hS.sl (v := lv) (xs := rs) (by first | exact .h0 | exact .h1 | exact .h2 | exact .h3 | exact .h4 | exact .h5 | exact .h6 | exact .h7 | exact .h8 | exact .h9 | exact .h10 | exact .h11 | exact .h12 | exact .h13 | exact .h14)).isP hk) ⟨rfl, rfl⟩)) ?_
    refine ML.look rfl rfl rfl (fun w hw => (by have hS := hS1.bel hw; exact opW.fieldAddr rfl ((hS.sl (v := lv) (xs := rs) (by first | exact .h0 | exact .h1 | exact .h2 | exact .h3 | exact .h4 | exact .h5 | exact .h6 | exact .h7 | exact .h8 | exact .h9 | exact .h10 | exact .h11 | exact .h12 | exact .h13 | exact .h14)).isP hk) ⟨rfl, rfl⟩)) ?_
    refine ML.look rfl rfl rfl (fun w hw => (by have hS := hS1.bel hw; exact opW.loadV rfl (Ld.pt1 (show Pt _ (elemP lv k (Enc.sz Ring)) (Enc.enc L.r) from (congrArg Enc.enc hr) ▸ (hS.sl (v := lv) (xs := rs) (by first | exact .h0 | exact .h1 | exact .h2 | exact .h3 | exact .h4 | exact .h5 | exact .h6 | exact .h7 | exact .h8 | exact .h9 | exact .h10 | exact .h11 | exact .h12 | exact .h13 | exact .h14)).isPt hk) 1 (LnD.at_from_ L)) ⟨rfl, rfl⟩)) ?_
    refine ML.look rfl rfl rfl (fun w hw => (by have hS := hS1.bel hw; exact opW.idxV rfl (hS.sl (v := L.l.v) (xs := L.cs) (by first | exact .h0 | exact .h1 | exact .h2 | exact .h3 | exact .h4 | exact .h5 | exact .h6 | exact .h7 | exact .h8 | exact .h9 | exact .h10 | exact .h11 | exact .h12 | exact .h13 | exact .h14)) rfl (by omega) ⟨rfl, rfl⟩)) ?_
    refine ML.look rfl rfl rfl (fun w hw => (by have hS := hS1.bel hw; exact opW.loadV rfl ((show Ld _ _ _ _ (b.1.v) from hgf2 ▸ ((hS.sl (v := L.l.v) (xs := L.cs) (by first | exact .h0 | exact .h1 | exact .h2 | exact .h3 | exact .h4 | exact .h5 | exact .h6 | exact .h7 | exact .h8 | exact .h9 | exact .h10 | exact .h11 | exact .h12 | exact .h13 | exact .h14)).isPt hf).ld rfl)) ⟨rfl, rfl⟩)) ?_
    refine ML.look rfl rfl rfl (fun w hw => (by have hS := hS1.bel hw; exact opW.moveV (v := .slice none 0 0) rfl ⟨rfl, rfl⟩)) ?_
    refine ML.look rfl rfl rfl (fun w hw => (by have hS := hS1.bel hw; exact opW.assignV (v := b.1.v) rfl ⟨rfl, rfl⟩)) ?_
    refine ML.look rfl rfl rfl (fun w hw => (by have hS := hS1.bel hw; exact opW.idxV rfl (hS.sl (v := L.l.v) (xs := L.cs) (by first | exact .h0 | exact .h1 | exact .h2 | exact .h3 | exact .h4 | exact .h5 | exact .h6 | exact .h7 | exact .h8 | exact .h9 | exact .h10 | exact .h11 | exact .h12 | exact .h13 | exact .h14)) rfl (by omega) ⟨rfl, rfl⟩)) ?_
    refine ML.put0 rfl rfl rfl (opW.storeOwn (v := L.l.v) (u := .slice none 0 0) (sz := 1) (xs := L.cs) (i := L.f) (off := 0) (y' := ⟨none, 0, 0⟩) hS (by first | exact .h0 | exact .h1 | exact .h2 | exact .h3 | exact .h4 | exact .h5 | exact .h6 | exact .h7 | exact .h8 | exact .h9 | exact .h10 | exact .h11 | exact .h12 | exact .h13 | exact .h14) hf (ptrAdd_zero L.l.v L.f (Enc.sz SlV)).symm rfl (by rfl) (by decide) (Enc.one (α := SlV) ⟨none, 0, 0⟩) (spl_all (by rfl)) ?_)
    intro w hS; replace hS := hS _ (by first | exact .h0 | exact .h1 | exact .h2 | exact .h3 | exact .h4 | exact .h5 | exact .h6 | exact .h7 | exact .h8 | exact .h9 | exact .h10 | exact .h11 | exact .h12 | exact .h13 | exact .h14)
    refine ML.nil ?_
    refine thenQ_n (hK5 _ _ ?_)
    refine WC.seq (fun K6 hK6 => ?_)
    refine WC.region ?_
    refine WL.op rfl (opW.moveV (v := (elemP lv k (Enc.sz Ring))) rfl ?_)
    refine WL.op rfl (opW.moveV (v := (elemP lv k (Enc.sz Ring))) rfl ?_)
    refine WL.op rfl (opW.call (at_ok _ (elemP lv k (Enc.sz Ring)) (⟨L.l, L.f, (L.cs.set L.f ⟨none, 0, 0⟩), L.q⟩ : LnD) 1 (show Pt _ (elemP lv k (Enc.sz Ring)) (Enc.enc (⟨L.l, L.f, (L.cs.set L.f ⟨none, 0, 0⟩), L.q⟩ : LnD).r) from (congrArg Enc.enc (hr : rs[k] = L.r)) ▸ (hS.sl (v := lv) (xs := rs) (by first | exact .h0 | exact .h1 | exact .h2 | exact .h3 | exact .h4 | exact .h5 | exact .h6 | exact .h7 | exact .h8 | exact .h9 | exact .h10 | exact .h11 | exact .h12 | exact .h13 | exact .h14)).isPt hk) (hS.sl (v := L.l.v) (xs := (L.cs.set L.f ⟨none, 0, 0⟩)) (by first | exact .h0 | exact .h1 | exact .h2 | exact .h3 | exact .h4 | exact .h5 | exact .h6 | exact .h7 | exact .h8 | exact .h9 | exact .h10 | exact .h11 | exact .h12 | exact .h13 | exact .h14)) (by show 0 < (L.cs.set L.f ⟨none, 0, 0⟩).length; rw [List.length_set]; omega) (by show (L.cs.set L.f ⟨none, 0, 0⟩).length ≤ 4001; rw [List.length_set]; exact hcl) (by show L.f ≤ 4001; omega) (by omega)) rfl ?_)
    rintro v32 w ⟨h32, hw⟩; replace hS := hS.bel hw; replace h32 : v32 = .int .i64 (((L.f + 1) % L.cs.length : Nat) : Int) := (by rw [h32]; show Value.int .i64 (((L.f + 1) % (L.cs.set L.f ⟨none, 0, 0⟩).length : Nat) : Int) = _; rw [List.length_set]); subst h32
    refine WL.op rfl (opW.nilCheck rfl ((hS.sl (v := lv) (xs := rs) (by first | exact .h0 | exact .h1 | exact .h2 | exact .h3 | exact .h4 | exact .h5 | exact .h6 | exact .h7 | exact .h8 | exact .h9 | exact .h10 | exact .h11 | exact .h12 | exact .h13 | exact .h14)).isP hk) ?_)
    refine WL.op rfl (opW.fieldAddr rfl ((hS.sl (v := lv) (xs := rs) (by first | exact .h0 | exact .h1 | exact .h2 | exact .h3 | exact .h4 | exact .h5 | exact .h6 | exact .h7 | exact .h8 | exact .h9 | exact .h10 | exact .h11 | exact .h12 | exact .h13 | exact .h14)).isP hk) ?_)
    refine WL.op0 (opW.storeOwn (v := lv) (u := .int .i64 (((L.f + 1) % L.cs.length) : Nat)) (sz := 1) (xs := rs) (i := k) (off := 1) (y' := (⟨L.l, (((L.f + 1) % L.cs.length) : Nat), (L.q.length : Int)⟩ : Ring)) hS (by first | exact .h0 | exact .h1 | exact .h2 | exact .h3 | exact .h4 | exact .h5 | exact .h6 | exact .h7 | exact .h8 | exact .h9 | exact .h10 | exact .h11 | exact .h12 | exact .h13 | exact .h14) hk rfl rfl rfl (by decide) (one_int _ _) (by rw [hr]; exact Ring.set_from_ L.r _) ?_)
    intro w hS; replace hS := hS _ (by first | exact .h0 | exact .h1 | exact .h2 | exact .h3 | exact .h4 | exact .h5 | exact .h6 | exact .h7 | exact .h8 | exact .h9 | exact .h10 | exact .h11 | exact .h12 | exact .h13 | exact .h14)
    have hk1 : k < (rs.set k (⟨L.l, (((L.f + 1) % L.cs.length) : Nat), (L.q.length : Int)⟩ : Ring)).length := by rw [List.length_set]; exact hk
    have hg1 : (rs.set k (⟨L.l, (((L.f + 1) % L.cs.length) : Nat), (L.q.length : Int)⟩ : Ring))[k] = (⟨L.l, (((L.f + 1) % L.cs.length) : Nat), (L.q.length : Int)⟩ : Ring) := List.getElem_set_self hk1
    refine WL.nil ?_
    refine thenQ_n (hK6 _ _ ?_)
    refine WC.seq (fun K7 hK7 => ?_)
    refine WC.region ?_
    refine WL.op rfl (opW.moveV (v := (elemP lv k (Enc.sz Ring))) rfl ?_)
    refine WL.op rfl (opW.nilCheck rfl ((hS.sl (v := lv) (xs := (rs.set k (⟨L.l, (((L.f + 1) % L.cs.length) : Nat), (L.q.length : Int)⟩ : Ring))) (by first | exact .h0 | exact .h1 | exact .h2 | exact .h3 | exact .h4 | exact .h5 | exact .h6 | exact .h7 | exact .h8 | exact .h9 | exact .h10 | exact .h11 | exact .h12 | exact .h13 | exact .h14)).isP hk1) ?_)
    refine WL.op rfl (opW.fieldAddr rfl ((hS.sl (v := lv) (xs := (rs.set k (⟨L.l, (((L.f + 1) % L.cs.length) : Nat), (L.q.length : Int)⟩ : Ring))) (by first | exact .h0 | exact .h1 | exact .h2 | exact .h3 | exact .h4 | exact .h5 | exact .h6 | exact .h7 | exact .h8 | exact .h9 | exact .h10 | exact .h11 | exact .h12 | exact .h13 | exact .h14)).isP hk1) ?_)
    refine WL.op rfl (opW.loadV rfl (Ld.pt1 (show Pt _ (elemP lv k (Enc.sz Ring)) (Enc.enc (⟨L.l, (((L.f + 1) % L.cs.length) : Nat), (L.q.length : Int)⟩ : Ring)) from (congrArg Enc.enc hg1) ▸ (hS.sl (v := lv) (xs := (rs.set k (⟨L.l, (((L.f + 1) % L.cs.length) : Nat), (L.q.length : Int)⟩ : Ring))) (by first | exact .h0 | exact .h1 | exact .h2 | exact .h3 | exact .h4 | exact .h5 | exact .h6 | exact .h7 | exact .h8 | exact .h9 | exact .h10 | exact .h11 | exact .h12 | exact .h13 | exact .h14)).isPt hk1) 2 (show (Enc.enc (⟨L.l, (((L.f + 1) % L.cs.length) : Nat), (L.q.length : Int)⟩ : Ring))[2]? = some (.int .i64 (L.q.length : Int)) from Ring.at_many (⟨L.l, (((L.f + 1) % L.cs.length) : Nat), (L.q.length : Int)⟩ : Ring))) ?_)
    refine WL.op rfl (opW.sub rfl rfl ((wrap_i64 (by omega)).trans (by rw [hq]; simp : _ = (q.length : Int))) ?_)
    refine WL.op rfl (opW.nilCheck rfl ((hS.sl (v := lv) (xs := (rs.set k (⟨L.l, (((L.f + 1) % L.cs.length) : Nat), (L.q.length : Int)⟩ : Ring))) (by first | exact .h0 | exact .h1 | exact .h2 | exact .h3 | exact .h4 | exact .h5 | exact .h6 | exact .h7 | exact .h8 | exact .h9 | exact .h10 | exact .h11 | exact .h12 | exact .h13 | exact .h14)).isP hk1) ?_)
    refine WL.op rfl (opW.fieldAddr rfl ((hS.sl (v := lv) (xs := (rs.set k (⟨L.l, (((L.f + 1) % L.cs.length) : Nat), (L.q.length : Int)⟩ : Ring))) (by first | exact .h0 | exact .h1 | exact .h2 | exact .h3 | exact .h4 | exact .h5 | exact .h6 | exact .h7 | exact .h8 | exact .h9 | exact .h10 | exact .h11 | exact .h12 | exact .h13 | exact .h14)).isP hk1) ?_)
    refine WL.op0 (opW.storeOwn (v := lv) (u := .int .i64 (q.length : Int)) (sz := 1) (xs := (rs.set k (⟨L.l, (((L.f + 1) % L.cs.length) : Nat), (L.q.length : Int)⟩ : Ring))) (i := k) (off := 2) (y' := (⟨L.l, (L.f + 1) % L.cs.length, L.cs.set L.f ⟨none, 0, 0⟩, q⟩ : LnD).r) hS (by first | exact .h0 | exact .h1 | exact .h2 | exact .h3 | exact .h4 | exact .h5 | exact .h6 | exact .h7 | exact .h8 | exact .h9 | exact .h10 | exact .h11 | exact .h12 | exact .h13 | exact .h14) hk1 rfl rfl rfl (by decide) (one_int _ _) (by rw [hg1]; exact Ring.set_many (⟨L.l, (((L.f + 1) % L.cs.length) : Nat), (L.q.length : Int)⟩ : Ring) _) ?_)
    intro w hS; replace hS := hS _ (by first | exact .h0 | exact .h1 | exact .h2 | exact .h3 | exact .h4 | exact .h5 | exact .h6 | exact .h7 | exact .h8 | exact .h9 | exact .h10 | exact .h11 | exact .h12 | exact .h13 | exact .h14)
    rw [List.set_set] at hS
    refine WL.nil ?_
    refine thenQ_n (hK7 _ _ ?_)
    refine WC.seq (fun K8 hK8 => ?_)
    refine WC.region ?_
    refine WL.op rfl (opW.moveV (v := b.1.v) rfl ?_)
    refine WL.op rfl (opW.assignV (v := b.1.v) rfl ?_)
    refine WL.op rfl (opW.assignB rfl ?_)
    refine WL.nil ?_
    refine thenQ_n (hK8 _ _ ?_)
    refine WC.ret ?_
    refine bodyQ_ret (.tmpV (v := b.1.v) rfl (.tmpB rfl .nil)) ?_
    rw [hq]
    exact ⟨(⟨L.l, (L.f + 1) % L.cs.length, L.cs.set L.f ⟨none, 0, 0⟩, q⟩ : LnD), rfl, hok2, rfl, (hS.pick (e := ownE lv 57 _) (by first | exact .h0 | exact .h1 | exact .h2 | exact .h3 | exact .h4 | exact .h5 | exact .h6 | exact .h7 | exact .h8 | exact .h9 | exact .h10 | exact .h11 | exact .h12 | exact .h13 | exact .h14))⟩

end Go.Fer
