/- a message in the book -/
import Derived.Test.YtljdebibekdhdaaQ
import Derived.Test.YtljdebibekdhdaaD
set_option linter.all false
namespace Go.Fer
open Go Go.Proofs Go.RowKit

theorem St.b2Cons {w0 w : World} {S : List Ent} {l : List ((SlV × List UInt8) × (SlV × List UInt8))} {p : (SlV × List UInt8) × (SlV × List UInt8)} (h : St w0 (ownE p.1.1.v 5 p.1.2 :: ownE p.2.1.v 5 p.2.2 :: b2E l :: S) w) : St w0 (b2E (p :: l) :: S) w := by
  have h1 : St w0 (b2E l :: (ownE p.1.1.v 5 p.1.2 :: ownE p.2.1.v 5 p.2.2 :: S)) w := h.perm (((List.Perm.swap (b2E l) (ownE p.2.1.v 5 p.2.2) S).cons _).trans (List.Perm.swap (b2E l) (ownE p.1.1.v 5 p.1.2) _))
  rw [b2E_eq] at h1 ⊢
  refine St.closed (l := ownE p.1.1.v 5 p.1.2 :: ownE p.2.1.v 5 p.2.2 :: b2L l) ?_
  have h2 := h1.opened
  exact h2.perm ((List.perm_append_comm_assoc (b2L l) [ownE p.1.1.v 5 p.1.2, ownE p.2.1.v 5 p.2.2] S))
theorem St.b2Out {w0 w : World} {S : List Ent} {l : List ((SlV × List UInt8) × (SlV × List UInt8))} {p : (SlV × List UInt8) × (SlV × List UInt8)} (h : St w0 (b2E (p :: l) :: S) w) : St w0 (ownE p.1.1.v 5 p.1.2 :: ownE p.2.1.v 5 p.2.2 :: b2E l :: S) w := by
  rw [b2E_eq] at h ⊢
  have h2 : St w0 ([ownE p.1.1.v 5 p.1.2, ownE p.2.1.v 5 p.2.2] ++ (b2L l ++ S)) w := h.opened
  have h3 : St w0 (b2L l ++ ([ownE p.1.1.v 5 p.1.2, ownE p.2.1.v 5 p.2.2] ++ S)) w := h2.perm (List.perm_append_comm_assoc _ _ _)
  have h4 := St.closed h3
  exact h4.perm (((List.Perm.swap (ownE p.1.1.v 5 p.1.2) (starE (b2L l)) _).trans ((List.Perm.swap (ownE p.2.1.v 5 p.2.2) (starE (b2L l)) S).cons _)))

theorem bkMsg_ok (wb w0 : World) (S : List Ent) (p : Nat) (sv : SlV) (pgs : List (Pg Try.prog)) (m : Message) (c : MC) (ins : List Instr) (lks : List Lookup) (hS0 : St wb (bkE p sv pgs :: ownE m.keys.v 53 c.keys :: b2E (zipI ins c.ins) :: b2E (zipL lks c.lks) :: S) w0) (hi : ∀ w, St wb S w → SlR w m.instrs.v ins) (hl2 : ∀ w, St wb S w → SlR w m.lookups.v lks) (hil : ins.length = c.ins.length) (hll : lks.length = c.lks.length) (hb : pgs.length + 2 * ins.length + 2 * lks.length ≤ 90000) : Ret Try.prog 15 #[.pointer (some ⟨p, 0, none⟩), .agg (Enc.enc m)] w0 (fun u w' => ∃ sv' pgs', pgs'.length ≤ pgs.length + 1 + 2 * ins.length + 2 * lks.length ∧ St wb (bkE p sv' pgs' :: S) w') := by
  refine Ret.enter (args := [.pointer (some ⟨p, 0, none⟩), .agg (Enc.enc m)]) Try.func15 rfl Try.ntmps15 Try.results15 rfl ?_
  have hS := St.start w0
  replace hS := hS0
  refine WC.seq (fun K1 hK1 => ?_)
  refine WC.region ?_
  refine WL.op rfl (opW.boxA hS rfl ?_)
  intro b3 w _ hS
  refine WL.nil ?_
  refine thenQ_n (hK1 _ _ ?_)
  refine WC.seq (fun K2 hK2 => ?_)
  refine WC.region ?_
  refine WL.op rfl (opW.moveV (v := .pointer (some ⟨p, 0, none⟩)) rfl ?_)
  refine WL.op rfl (opW.fieldAddrB rfl ?_)
  refine WL.op rfl (opW.loadV rfl (hS.ld1 (by first | exact .h0 | exact .h1 | exact .h2 | exact .h3 | exact .h4 | exact .h5 | exact .h6 | exact .h7 | exact .h8 | exact .h9 | exact .h10 | exact .h11 | exact .h12 | exact .h13 | exact .h14) (Message.at_keys m)) ?_)
  refine WL.op rfl (opW.call (bkKeys_ok _ _ _ p sv pgs m.keys.v c.keys (by omega) ((hS.pick (e := ownE m.keys.v 53 c.keys) (by first | exact .h0 | exact .h1 | exact .h2 | exact .h3 | exact .h4 | exact .h5 | exact .h6 | exact .h7 | exact .h8 | exact .h9 | exact .h10 | exact .h11 | exact .h12 | exact .h13 | exact .h14)).pick (e := bkE p sv pgs) (by first | exact .h0 | exact .h1 | exact .h2 | exact .h3 | exact .h4 | exact .h5 | exact .h6 | exact .h7 | exact .h8 | exact .h9 | exact .h10 | exact .h11 | exact .h12 | exact .h13 | exact .h14))) rfl ?_)
  rintro v9 w ⟨sv0, g0, hS⟩
  have hp0 : (pgs ++ [g0]).length = pgs.length + 1 := by simp
  generalize hg0 : pgs ++ [g0] = pg0 at *
  replace hS : St wb (bkE p sv0 pg0 :: b2E ((zipI ins c.ins).drop 0) :: b2E (zipL lks c.lks) :: blkE b3 (Enc.enc m) 30 :: S) w := by
    rw [List.drop_zero]
    exact ((((hS.pick (e := blkE b3 (Enc.enc m) 30) (by first | exact .h0 | exact .h1 | exact .h2 | exact .h3 | exact .h4 | exact .h5 | exact .h6 | exact .h7 | exact .h8 | exact .h9 | exact .h10 | exact .h11 | exact .h12 | exact .h13 | exact .h14)).pick (e := b2E (zipL lks c.lks)) (by first | exact .h0 | exact .h1 | exact .h2 | exact .h3 | exact .h4 | exact .h5 | exact .h6 | exact .h7 | exact .h8 | exact .h9 | exact .h10 | exact .h11 | exact .h12 | exact .h13 | exact .h14)).pick (e := b2E (zipI ins c.ins)) (by first | exact .h0 | exact .h1 | exact .h2 | exact .h3 | exact .h4 | exact .h5 | exact .h6 | exact .h7 | exact .h8 | exact .h9 | exact .h10 | exact .h11 | exact .h12 | exact .h13 | exact .h14)).pick (e := bkE p sv0 pg0) (by first | exact .h0 | exact .h1 | exact .h2 | exact .h3 | exact .h4 | exact .h5 | exact .h6 | exact .h7 | exact .h8 | exact .h9 | exact .h10 | exact .h11 | exact .h12 | exact .h13 | exact .h14)).sub (by repeat (first | with_reducible exact List.nil_sublist _ | with_reducible exact List.Sublist.refl _ | with_reducible refine List.Sublist.cons₂ _ ?_ | with_reducible refine List.Sublist.cons _ ?_))
  refine WL.nil ?_
  refine thenQ_n (hK2 _ _ ?_)
  refine WC.seq (fun K3 hK3 => ?_)
  refine WC.seq (fun K4 hK4 => ?_)
  refine WC.region ?_
  refine WL.op rfl (opW.assignI rfl ?_)
  refine WL.nil ?_
  refine thenQ_n (hK4 _ _ ?_)
  refine WC.block ?_
  refine WC.loop (fun q f w => ∃ (k : Nat) (sv1 : SlV) (pg1 : List (Pg Try.prog)), Fits [(0, .pointer (some ⟨p, 0, none⟩)), (3, .pointer (some ⟨b3, 0, none⟩)), (4, .int .i64 (k : Int))] f ∧ St wb (bkE p sv1 pg1 :: b2E ((zipI ins c.ins).drop k) :: b2E (zipL lks c.lks) :: blkE b3 (Enc.enc m) 30 :: S) w ∧ pg1.length ≤ (pgs.length + 1) + 2 * k ∧ k ≤ ins.length ∧ q = ins.length - k) (ins.length) ?_ ?_
  ·
    exact ⟨0, _, _, ⟨rfl, rfl, rfl, trivial⟩, hS, by omega, Nat.zero_le _, rfl⟩
  ·
    rintro q f w ⟨k, sv1, pg1, hfit, hS, hpl, hk0, hm⟩
    refine WC.fits _ hfit (fun g => ?_)
    clear hfit
    refine WC.seq (fun K5 hK5 => ?_)
    refine WC.seq (fun K6 hK6 => ?_)
    refine WC.region ?_
    refine WL.op rfl (opW.moveI rfl ?_)
    refine WL.op rfl (opW.fieldAddrB rfl ?_)
    refine WL.op rfl (opW.loadV rfl (hS.ld1 (by first | exact .h0 | exact .h1 | exact .h2 | exact .h3 | exact .h4 | exact .h5 | exact .h6 | exact .h7 | exact .h8 | exact .h9 | exact .h10 | exact .h11 | exact .h12 | exact .h13 | exact .h14) (Message.at_instrs m)) ?_)
    refine WL.op rfl (opW.lenV rfl ((hi _ (hS.sub (by repeat (first | with_reducible exact List.nil_sublist _ | with_reducible exact List.Sublist.refl _ | with_reducible refine List.Sublist.cons₂ _ ?_ | with_reducible refine List.Sublist.cons _ ?_))))) ?_)
    refine WL.op rfl (opW.lss rfl rfl ?_)
    refine WL.nil ?_
    refine thenQ_n (hK6 _ _ ?_)
    refine WC.cond _ rfl (fun hc0 => ?_) (fun hc0 => ?_)
    ·
      have hr0 := hc0
      try simp only [decide_eq_true_eq, decide_eq_false_iff_not, Bool.and_eq_true, Bool.or_eq_true, Bool.and_eq_false_iff, Bool.or_eq_false_iff, Bool.not_eq_true', Bool.not_eq_false', Int.not_lt, Int.not_le] at hc0
      have hkl : k < ins.length := by omega
      have hkc : k < c.ins.length := by omega
      have hkz : k < (zipI ins c.ins).length := by unfold zipI; rw [List.length_zipWith]; omega
      have hz : (zipI ins c.ins)[k] = ((ins[k].accounts, c.ins[k].2.1), (ins[k].data, c.ins[k].2.2)) := List.getElem_zipWith (h := hkz)
      have hdr : (zipI ins c.ins).drop k = (zipI ins c.ins)[k] :: (zipI ins c.ins).drop (k + 1) := List.drop_eq_getElem_cons hkz
      rw [hdr, hz] at hS
      replace hS := (hS.pick (e := b2E (((ins[k].accounts, c.ins[k].2.1), (ins[k].data, c.ins[k].2.2)) :: (zipI ins c.ins).drop (k + 1))) (by first | exact .h0 | exact .h1 | exact .h2 | exact .h3 | exact .h4 | exact .h5 | exact .h6 | exact .h7 | exact .h8 | exact .h9 | exact .h10 | exact .h11 | exact .h12 | exact .h13 | exact .h14)).b2Out
      replace hS := (hS.pick (e := bkE p sv1 pg1) (by first | exact .h0 | exact .h1 | exact .h2 | exact .h3 | exact .h4 | exact .h5 | exact .h6 | exact .h7 | exact .h8 | exact .h9 | exact .h10 | exact .h11 | exact .h12 | exact .h13 | exact .h14))
      refine WC.skip ?_
      refine thenQ_n (hK5 _ _ ?_)
      refine WC.seq (fun K7 hK7 => ?_)
      refine WC.block ?_
      refine WC.seq (fun K8 hK8 => ?_)
      refine WC.region ?_
      refine WL.op rfl (opW.moveV (v := .pointer (some ⟨p, 0, none⟩)) rfl ?_)
      refine WL.op rfl (opW.fieldAddrB rfl ?_)
      refine WL.op rfl (opW.loadV rfl (hS.ld1 (by first | exact .h0 | exact .h1 | exact .h2 | exact .h3 | exact .h4 | exact .h5 | exact .h6 | exact .h7 | exact .h8 | exact .h9 | exact .h10 | exact .h11 | exact .h12 | exact .h13 | exact .h14) (Message.at_instrs m)) ?_)
      refine WL.op rfl (opW.moveI rfl ?_)
      refine WL.op rfl (opW.idxV rfl ((hi _ (hS.sub (by repeat (first | with_reducible exact List.nil_sublist _ | with_reducible exact List.Sublist.refl _ | with_reducible refine List.Sublist.cons₂ _ ?_ | with_reducible refine List.Sublist.cons _ ?_))))) rfl (by omega) ?_)
      refine WL.op rfl (opW.fieldAddr rfl ((hi _ (hS.sub (by repeat (first | with_reducible exact List.nil_sublist _ | with_reducible exact List.Sublist.refl _ | with_reducible refine List.Sublist.cons₂ _ ?_ | with_reducible refine List.Sublist.cons _ ?_)))).isP hkl) ?_)
      refine WL.op rfl (opW.loadV rfl (Ld.pt1 ((hi _ (hS.sub (by repeat (first | with_reducible exact List.nil_sublist _ | with_reducible exact List.Sublist.refl _ | with_reducible refine List.Sublist.cons₂ _ ?_ | with_reducible refine List.Sublist.cons _ ?_)))).isPt hkl) 1 (Instr.at_accounts _)) ?_)
      refine WL.op rfl (opW.call (bkBytes_ok _ _ _ p sv1 pg1 ins[k].accounts.v c.ins[k].2.1 (by omega) hS) rfl ?_)
      rintro v24 w ⟨sv2, g1, hS⟩
      replace hS := (hS.pick (e := ownE ins[k].data.v 5 c.ins[k].2.2) (by first | exact .h0 | exact .h1 | exact .h2 | exact .h3 | exact .h4 | exact .h5 | exact .h6 | exact .h7 | exact .h8 | exact .h9 | exact .h10 | exact .h11 | exact .h12 | exact .h13 | exact .h14)).pick (e := bkE p sv2 (pg1 ++ [g1])) (by first | exact .h0 | exact .h1 | exact .h2 | exact .h3 | exact .h4 | exact .h5 | exact .h6 | exact .h7 | exact .h8 | exact .h9 | exact .h10 | exact .h11 | exact .h12 | exact .h13 | exact .h14)
      refine WL.nil ?_
      refine thenQ_n (hK8 _ _ ?_)
      refine WC.region ?_
      refine WL.op rfl (opW.moveV (v := .pointer (some ⟨p, 0, none⟩)) rfl ?_)
      refine WL.op rfl (opW.fieldAddrB rfl ?_)
      refine WL.op rfl (opW.loadV rfl (hS.ld1 (by first | exact .h0 | exact .h1 | exact .h2 | exact .h3 | exact .h4 | exact .h5 | exact .h6 | exact .h7 | exact .h8 | exact .h9 | exact .h10 | exact .h11 | exact .h12 | exact .h13 | exact .h14) (Message.at_instrs m)) ?_)
      refine WL.op rfl (opW.moveI rfl ?_)
      refine WL.op rfl (opW.idxV rfl ((hi _ (hS.sub (by repeat (first | with_reducible exact List.nil_sublist _ | with_reducible exact List.Sublist.refl _ | with_reducible refine List.Sublist.cons₂ _ ?_ | with_reducible refine List.Sublist.cons _ ?_))))) rfl (by omega) ?_)
      refine WL.op rfl (opW.fieldAddr rfl ((hi _ (hS.sub (by repeat (first | with_reducible exact List.nil_sublist _ | with_reducible exact List.Sublist.refl _ | with_reducible refine List.Sublist.cons₂ _ ?_ | with_reducible refine List.Sublist.cons _ ?_)))).isP hkl) ?_)
      refine WL.op rfl (opW.loadV rfl (Ld.pt1 ((hi _ (hS.sub (by repeat (first | with_reducible exact List.nil_sublist _ | with_reducible exact List.Sublist.refl _ | with_reducible refine List.Sublist.cons₂ _ ?_ | with_reducible refine List.Sublist.cons _ ?_)))).isPt hkl) 2 (Instr.at_data _)) ?_)
      refine WL.op rfl (opW.call (bkBytes_ok _ _ _ p sv2 (pg1 ++ [g1]) ins[k].data.v c.ins[k].2.2 (by simp only [List.length_append, List.length_cons, List.length_nil]; omega) hS) rfl ?_)
      rintro v32 w ⟨sw, g2, hS⟩
      refine WL.nil ?_
      refine blockQ_n ?_
      refine thenQ_n (hK7 _ _ ?_)
      refine WC.region ?_
      refine WL.op rfl (opW.moveI rfl ?_)
      refine WL.op rfl (opW.add rfl rfl (wrap_i64 (by omega)) ?_)
      refine WL.op rfl (opW.assignI rfl ?_)
      refine WL.nil ?_
      refine thenQ_n ?_
      exact ⟨ins.length - (k + 1), by omega, k + 1, _, _, ⟨rfl, rfl, congrArg (Value.int .i64) (by omega), trivial⟩, (hS.pick (e := bkE p sw (pg1 ++ [g1] ++ [g2])) (by first | exact .h0 | exact .h1 | exact .h2 | exact .h3 | exact .h4 | exact .h5 | exact .h6 | exact .h7 | exact .h8 | exact .h9 | exact .h10 | exact .h11 | exact .h12 | exact .h13 | exact .h14)).sub (by repeat (first | with_reducible exact List.nil_sublist _ | with_reducible exact List.Sublist.refl _ | with_reducible refine List.Sublist.cons₂ _ ?_ | with_reducible refine List.Sublist.cons _ ?_)), by simp only [List.length_append, List.length_cons, List.length_nil]; omega, by omega, rfl⟩
    ·
      have hr0 := hc0
      try simp only [decide_eq_true_eq, decide_eq_false_iff_not, Bool.and_eq_true, Bool.or_eq_true, Bool.and_eq_false_iff, Bool.or_eq_false_iff, Bool.not_eq_true', Bool.not_eq_false', Int.not_lt, Int.not_le] at hc0
      obtain rfl : k = ins.length := by omega
      replace hS : St wb (bkE p sv1 pg1 :: b2E ((zipL lks c.lks).drop 0) :: blkE b3 (Enc.enc m) 30 :: S) w := by
        rw [List.drop_zero]
        exact hS.sub (by repeat (first | with_reducible exact List.nil_sublist _ | with_reducible exact List.Sublist.refl _ | with_reducible refine List.Sublist.cons₂ _ ?_ | with_reducible refine List.Sublist.cons _ ?_))
      refine WC.exit ?_
      refine thenQ_e ?_
      refine thenQ_e ?_
      refine blockQ_hit ?_
      refine thenQ_n (hK3 _ _ ?_)
      refine WC.seq (fun K9 hK9 => ?_)
      refine WC.region ?_
      refine WL.op rfl (opW.assignI rfl ?_)
      refine WL.nil ?_
      refine thenQ_n (hK9 _ _ ?_)
      refine WC.block ?_
      refine WC.loop (fun q f w => ∃ (k : Nat) (sv1 : SlV) (pg1 : List (Pg Try.prog)), Fits [(0, .pointer (some ⟨p, 0, none⟩)), (3, .pointer (some ⟨b3, 0, none⟩)), (5, .int .i64 (k : Int))] f ∧ St wb (bkE p sv1 pg1 :: b2E ((zipL lks c.lks).drop k) :: blkE b3 (Enc.enc m) 30 :: S) w ∧ pg1.length ≤ (pgs.length + 1 + 2 * ins.length) + 2 * k ∧ k ≤ lks.length ∧ q = lks.length - k) (lks.length) ?_ ?_
      ·
        exact ⟨0, _, _, ⟨rfl, rfl, rfl, trivial⟩, hS, by omega, Nat.zero_le _, rfl⟩
      ·
        rintro q f w ⟨k, sv1, pg1, hfit, hS, hpl, hk0, hm⟩
        refine WC.fits _ hfit (fun g => ?_)
        clear hfit
        refine WC.seq (fun K10 hK10 => ?_)
        refine WC.seq (fun K11 hK11 => ?_)
        refine WC.region ?_
        refine WL.op rfl (opW.moveI rfl ?_)
        refine WL.op rfl (opW.fieldAddrB rfl ?_)
        refine WL.op rfl (opW.loadV rfl (hS.ld1 (by first | exact .h0 | exact .h1 | exact .h2 | exact .h3 | exact .h4 | exact .h5 | exact .h6 | exact .h7 | exact .h8 | exact .h9 | exact .h10 | exact .h11 | exact .h12 | exact .h13 | exact .h14) (Message.at_lookups m)) ?_)
        refine WL.op rfl (opW.lenV rfl ((hl2 _ (hS.sub (by repeat (first | with_reducible exact List.nil_sublist _ | with_reducible exact List.Sublist.refl _ | with_reducible refine List.Sublist.cons₂ _ ?_ | with_reducible refine List.Sublist.cons _ ?_))))) ?_)
        refine WL.op rfl (opW.lss rfl rfl ?_)
        refine WL.nil ?_
        refine thenQ_n (hK11 _ _ ?_)
        refine WC.cond _ rfl (fun hc1 => ?_) (fun hc1 => ?_)
        ·
          have hr1 := hc1
          try simp only [decide_eq_true_eq, decide_eq_false_iff_not, Bool.and_eq_true, Bool.or_eq_true, Bool.and_eq_false_iff, Bool.or_eq_false_iff, Bool.not_eq_true', Bool.not_eq_false', Int.not_lt, Int.not_le] at hc1
          have hkl : k < lks.length := by omega
          have hkc : k < c.lks.length := by omega
          have hkz : k < (zipL lks c.lks).length := by unfold zipL; rw [List.length_zipWith]; omega
          have hz : (zipL lks c.lks)[k] = ((lks[k].writes, c.lks[k].2.1), (lks[k].reads, c.lks[k].2.2)) := List.getElem_zipWith (h := hkz)
          have hdr : (zipL lks c.lks).drop k = (zipL lks c.lks)[k] :: (zipL lks c.lks).drop (k + 1) := List.drop_eq_getElem_cons hkz
          rw [hdr, hz] at hS
          replace hS := (hS.pick (e := b2E (((lks[k].writes, c.lks[k].2.1), (lks[k].reads, c.lks[k].2.2)) :: (zipL lks c.lks).drop (k + 1))) (by first | exact .h0 | exact .h1 | exact .h2 | exact .h3 | exact .h4 | exact .h5 | exact .h6 | exact .h7 | exact .h8 | exact .h9 | exact .h10 | exact .h11 | exact .h12 | exact .h13 | exact .h14)).b2Out
          replace hS := (hS.pick (e := bkE p sv1 pg1) (by first | exact .h0 | exact .h1 | exact .h2 | exact .h3 | exact .h4 | exact .h5 | exact .h6 | exact .h7 | exact .h8 | exact .h9 | exact .h10 | exact .h11 | exact .h12 | exact .h13 | exact .h14))
          refine WC.skip ?_
          refine thenQ_n (hK10 _ _ ?_)
          refine WC.seq (fun K12 hK12 => ?_)
          refine WC.block ?_
          refine WC.seq (fun K13 hK13 => ?_)
          refine WC.region ?_
          refine WL.op rfl (opW.moveV (v := .pointer (some ⟨p, 0, none⟩)) rfl ?_)
          refine WL.op rfl (opW.fieldAddrB rfl ?_)
          refine WL.op rfl (opW.loadV rfl (hS.ld1 (by first | exact .h0 | exact .h1 | exact .h2 | exact .h3 | exact .h4 | exact .h5 | exact .h6 | exact .h7 | exact .h8 | exact .h9 | exact .h10 | exact .h11 | exact .h12 | exact .h13 | exact .h14) (Message.at_lookups m)) ?_)
          refine WL.op rfl (opW.moveI rfl ?_)
          refine WL.op rfl (opW.idxV rfl ((hl2 _ (hS.sub (by repeat (first | with_reducible exact List.nil_sublist _ | with_reducible exact List.Sublist.refl _ | with_reducible refine List.Sublist.cons₂ _ ?_ | with_reducible refine List.Sublist.cons _ ?_))))) rfl (by omega) ?_)
          refine WL.op rfl (opW.fieldAddr rfl ((hl2 _ (hS.sub (by repeat (first | with_reducible exact List.nil_sublist _ | with_reducible exact List.Sublist.refl _ | with_reducible refine List.Sublist.cons₂ _ ?_ | with_reducible refine List.Sublist.cons _ ?_)))).isP hkl) ?_)
          refine WL.op rfl (opW.loadV rfl (Ld.pt1 ((hl2 _ (hS.sub (by repeat (first | with_reducible exact List.nil_sublist _ | with_reducible exact List.Sublist.refl _ | with_reducible refine List.Sublist.cons₂ _ ?_ | with_reducible refine List.Sublist.cons _ ?_)))).isPt hkl) 32 (Lookup.at_writes _)) ?_)
          refine WL.op rfl (opW.call (bkBytes_ok _ _ _ p sv1 pg1 lks[k].writes.v c.lks[k].2.1 (by omega) hS) rfl ?_)
          rintro v47 w ⟨sv2, g1, hS⟩
          replace hS := (hS.pick (e := ownE lks[k].reads.v 5 c.lks[k].2.2) (by first | exact .h0 | exact .h1 | exact .h2 | exact .h3 | exact .h4 | exact .h5 | exact .h6 | exact .h7 | exact .h8 | exact .h9 | exact .h10 | exact .h11 | exact .h12 | exact .h13 | exact .h14)).pick (e := bkE p sv2 (pg1 ++ [g1])) (by first | exact .h0 | exact .h1 | exact .h2 | exact .h3 | exact .h4 | exact .h5 | exact .h6 | exact .h7 | exact .h8 | exact .h9 | exact .h10 | exact .h11 | exact .h12 | exact .h13 | exact .h14)
          refine WL.nil ?_
          refine thenQ_n (hK13 _ _ ?_)
          refine WC.region ?_
          refine WL.op rfl (opW.moveV (v := .pointer (some ⟨p, 0, none⟩)) rfl ?_)
          refine WL.op rfl (opW.fieldAddrB rfl ?_)
          refine WL.op rfl (opW.loadV rfl (hS.ld1 (by first | exact .h0 | exact .h1 | exact .h2 | exact .h3 | exact .h4 | exact .h5 | exact .h6 | exact .h7 | exact .h8 | exact .h9 | exact .h10 | exact .h11 | exact .h12 | exact .h13 | exact .h14) (Message.at_lookups m)) ?_)
          refine WL.op rfl (opW.moveI rfl ?_)
          refine WL.op rfl (opW.idxV rfl ((hl2 _ (hS.sub (by repeat (first | with_reducible exact List.nil_sublist _ | with_reducible exact List.Sublist.refl _ | with_reducible refine List.Sublist.cons₂ _ ?_ | with_reducible refine List.Sublist.cons _ ?_))))) rfl (by omega) ?_)
          refine WL.op rfl (opW.fieldAddr rfl ((hl2 _ (hS.sub (by repeat (first | with_reducible exact List.nil_sublist _ | with_reducible exact List.Sublist.refl _ | with_reducible refine List.Sublist.cons₂ _ ?_ | with_reducible refine List.Sublist.cons _ ?_)))).isP hkl) ?_)
          refine WL.op rfl (opW.loadV rfl (Ld.pt1 ((hl2 _ (hS.sub (by repeat (first | with_reducible exact List.nil_sublist _ | with_reducible exact List.Sublist.refl _ | with_reducible refine List.Sublist.cons₂ _ ?_ | with_reducible refine List.Sublist.cons _ ?_)))).isPt hkl) 33 (Lookup.at_reads _)) ?_)
          refine WL.op rfl (opW.call (bkBytes_ok _ _ _ p sv2 (pg1 ++ [g1]) lks[k].reads.v c.lks[k].2.2 (by simp only [List.length_append, List.length_cons, List.length_nil]; omega) hS) rfl ?_)
          rintro v55 w ⟨sw, g2, hS⟩
          refine WL.nil ?_
          refine blockQ_n ?_
          refine thenQ_n (hK12 _ _ ?_)
          refine WC.region ?_
          refine WL.op rfl (opW.moveI rfl ?_)
          refine WL.op rfl (opW.add rfl rfl (wrap_i64 (by omega)) ?_)
          refine WL.op rfl (opW.assignI rfl ?_)
          refine WL.nil ?_
          refine thenQ_n ?_
          exact ⟨lks.length - (k + 1), by omega, k + 1, _, _, ⟨rfl, rfl, congrArg (Value.int .i64) (by omega), trivial⟩, (hS.pick (e := bkE p sw (pg1 ++ [g1] ++ [g2])) (by first | exact .h0 | exact .h1 | exact .h2 | exact .h3 | exact .h4 | exact .h5 | exact .h6 | exact .h7 | exact .h8 | exact .h9 | exact .h10 | exact .h11 | exact .h12 | exact .h13 | exact .h14)).sub (by repeat (first | with_reducible exact List.nil_sublist _ | with_reducible exact List.Sublist.refl _ | with_reducible refine List.Sublist.cons₂ _ ?_ | with_reducible refine List.Sublist.cons _ ?_)), by simp only [List.length_append, List.length_cons, List.length_nil]; omega, by omega, rfl⟩
        ·
          have hr1 := hc1
          try simp only [decide_eq_true_eq, decide_eq_false_iff_not, Bool.and_eq_true, Bool.or_eq_true, Bool.and_eq_false_iff, Bool.or_eq_false_iff, Bool.not_eq_true', Bool.not_eq_false', Int.not_lt, Int.not_le] at hc1
          obtain rfl : k = lks.length := by omega
          refine WC.exit ?_
          refine thenQ_e ?_
          refine thenQ_e ?_
          refine blockQ_hit ?_
          refine bodyQ_end .nil ?_
          exact ⟨sv1, pg1, by omega, hS.sub (by repeat (first | with_reducible exact List.nil_sublist _ | with_reducible exact List.Sublist.refl _ | with_reducible refine List.Sublist.cons₂ _ ?_ | with_reducible refine List.Sublist.cons _ ?_))⟩

end Go.Fer
