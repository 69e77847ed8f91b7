/- MessagesGet -/
import Derived.Test.YtljdebibekdhdaaG2
import Derived.Test.YtljdebibekdhdaaU
import Derived.Test.YtljdebibekdhdaaL
import Derived.Test.YtljdebibekdhdaaO
import Derived.Test.YtljdebibekdhdaaS
set_option linter.all false
namespace Go.Fer
open Go Go.Proofs Go.RowKit

theorem rget_ok2 (w0 : World) (sx : SlV) (xs : List UInt8) {c : MC} {t : Nat} {e : Int} (hx : SlR w0 sx.v xs) (hxl : xs.length ≤ 1000000000) (hG : getF xs = (c, t, e)) :
    Ret Try.prog 20 #[sx.v] w0 (fun u w' => ∃ (m : Message) (is : List Instr) (ls : List Lookup), u = .tuple #[.agg (Enc.enc m), .int .i64 (t : Int), .int .i64 e] ∧ GotM m is ls c ∧ St w0 (gotL m is ls c) w') := by
  refine Ret.mono (rget_ok w0 sx xs hx hxl) ?_
  rintro u w' ⟨m, is, ls, h1, h2, h3⟩
  rw [hG] at h1 h2 h3
  exact ⟨m, is, ls, h1, h2, h3⟩
theorem leftBytes2 (w0 : World) (fv u0 u : Value) (xs : List UInt8) (h0 : u0 = cutV fv 0 xs.length (xs.length + 3) (Enc.sz UInt8)) (hcf : capV fv = xs.length + 3) (hf : SlR w0 fv (xs ++ [165, 165, 165])) (hu : SlR w0 u xs) : Ret Try.prog 22 #[u0, u] w0 (fun r w' => r = .bool true ∧ Bel w0 w') := by
  subst h0; exact leftBytes_ok w0 fv u xs hcf hf hu

theorem get_law (w0 : World) (sb : SlV) (xs : List UInt8) (hb : SlR w0 sb.v xs) : Ret Try.prog 4 #[sb.v] w0 (fun r w' => r = .bool true ∧ Bel w0 w') := by
  refine Ret.enter (args := [sb.v]) Try.func4 rfl Try.ntmps4 Try.results4 rfl ?_
  have hS := St.start w0
  obtain ⟨cg, tk, er, hG⟩ : ∃ (c : MC) (t : Nat) (e : Int), getF xs = (c, t, e) := ⟨_, _, _, rfl⟩
  have hle := hb.le
  simp only [maxLen] at hle
  refine WC.seq (fun K1 hK1 => ?_)
  refine WC.region ?_
  refine WL.op rfl (opW.assignB rfl ?_)
  refine WL.nil ?_
  refine thenQ_n (hK1 _ _ ?_)
  refine WC.seq (fun K2 hK2 => ?_)
  refine WC.seq (fun K3 hK3 => ?_)
  refine WC.region ?_
  refine WL.op rfl (opW.moveV (v := sb.v) rfl ?_)
  refine WL.op rfl (opW.lenV rfl ((hb.bel hS.old)) ?_)
  refine WL.op rfl (opW.gtr rfl rfl ?_)
  refine WL.nil ?_
  refine thenQ_n (hK3 _ _ ?_)
  refine WC.cond _ rfl (fun hc0 => ?_) (fun hc0 => ?_)
  ·
    have hr0 := hc0
    try simp only [decide_eq_true_eq, decide_eq_false_iff_not, Bool.and_eq_true, Bool.or_eq_true, Bool.and_eq_false_iff, Bool.or_eq_false_iff, Bool.not_eq_true', Bool.not_eq_false', Int.not_lt, Int.not_le] at hc0
    refine WC.seq (fun K4 hK4 => ?_)
    refine WC.region ?_
    refine WL.op rfl (opW.call (lives_ok _) rfl ?_)
    rintro _ w ⟨rfl, hw⟩; replace hS := hS.bel hw
    refine WL.op rfl (opW.assignB rfl ?_)
    refine WL.nil ?_
    refine thenQ_n (hK4 _ _ ?_)
    refine WC.ret ?_
    refine thenQ_r ?_
    refine bodyQ_ret (.tmpB rfl .nil) ?_
    exact ⟨rfl, hS.old⟩
  ·
    have hr0 := hc0
    try simp only [decide_eq_true_eq, decide_eq_false_iff_not, Bool.and_eq_true, Bool.or_eq_true, Bool.and_eq_false_iff, Bool.or_eq_false_iff, Bool.not_eq_true', Bool.not_eq_false', Int.not_lt, Int.not_le] at hc0
    have hsz := getF_size xs
    rw [hG] at hsz
    have hsz2 : cg.size ≤ 5000 := by have : cg.size ≤ xs.length := hsz; omega
    refine WC.skip ?_
    refine thenQ_n (hK2 _ _ ?_)
    refine WC.seq (fun K5 hK5 => ?_)
    refine WC.region ?_
    refine WL.op rfl (opW.moveV (v := sb.v) rfl ?_)
    refine WL.op rfl (opW.call (twinBytes_ok _ sb.v xs (hb.bel hS.old) (by omega)) rfl ?_)
    rintro u16 w ⟨fv, hu16, hcf, hn16, hw⟩; replace hS := hS.newOwn hw hn16.1 hn16.2; obtain ⟨st, rfl⟩ : ∃ s : SlV, u16 = s.v := (by rw [hu16]; exact (SlR.head (hS.sl (v := fv) (xs := xs ++ [165, 165, 165]) (by first | exact .h0 | exact .h1 | exact .h2 | exact .h3 | exact .h4 | exact .h5 | exact .h6 | exact .h7 | exact .h8 | exact .h9 | exact .h10 | exact .h11 | exact .h12 | exact .h13 | exact .h14)) (by omega) (by omega)).asV)
    refine WL.op rfl (opW.assignV (v := st.v) rfl ?_)
    refine WL.nil ?_
    refine thenQ_n (hK5 _ _ ?_)
    refine WC.seq (fun K6 hK6 => ?_)
    refine WC.region ?_
    refine WL.op rfl (opW.moveV (v := st.v) rfl ?_)
    refine WL.op rfl (opW.call (get_ok2 _ st xs (by rw [hu16]; exact SlR.head (hS.sl (v := fv) (xs := xs ++ [165, 165, 165]) (by first | exact .h0 | exact .h1 | exact .h2 | exact .h3 | exact .h4 | exact .h5 | exact .h6 | exact .h7 | exact .h8 | exact .h9 | exact .h10 | exact .h11 | exact .h12 | exact .h13 | exact .h14)) (by omega) (by omega)) (by omega) hG) rfl ?_)
    rintro _ w ⟨m, is, ls, rfl, hgm, hSg⟩
    replace hS := hS.merge hSg
    unfold gotL at hS
    simp only [List.cons_append, List.nil_append] at hS
    refine WL.op rfl (opW.moveV (v := .tuple #[.agg (Enc.enc m), .int .i64 (tk : Int), .int .i64 er]) rfl ?_)
    refine WL.op rfl (opW.extract rfl rfl ?_)
    refine WL.op rfl (opW.extract rfl rfl ?_)
    refine WL.op rfl (opW.extract rfl rfl ?_)
    refine WL.op rfl (opW.allocA hS ?_)
    intro b4 w _ hS
    refine WL.op0 (opW.storeE (r := m) hS rfl rfl (by first | exact .h0 | exact .h1 | exact .h2 | exact .h3 | exact .h4 | exact .h5 | exact .h6 | exact .h7 | exact .h8 | exact .h9 | exact .h10 | exact .h11 | exact .h12 | exact .h13 | exact .h14) (by rw [mg_zero2]; exact Enc.size_eq _) ?_)
    intro w hS; replace hS := hS _ (by first | exact .h0 | exact .h1 | exact .h2 | exact .h3 | exact .h4 | exact .h5 | exact .h6 | exact .h7 | exact .h8 | exact .h9 | exact .h10 | exact .h11 | exact .h12 | exact .h13 | exact .h14)
    refine WL.op rfl (opW.assignI rfl ?_)
    refine WL.op rfl (opW.assignI rfl ?_)
    refine WL.nil ?_
    refine thenQ_n (hK6 _ _ ?_)
    refine WC.seq (fun K7 hK7 => ?_)
    refine WC.region ?_
    refine WL.op rfl (opW.moveV (v := sb.v) rfl ?_)
    refine WL.op rfl (opW.call (rget_ok2 _ sb xs (hb.bel hS.old) (by omega) hG) rfl ?_)
    rintro _ w ⟨m2, is2, ls2, rfl, hgm2, hSg⟩
    replace hS := hS.merge hSg
    unfold gotL at hS
    simp only [List.cons_append, List.nil_append] at hS
    refine WL.op rfl (opW.moveV (v := .tuple #[.agg (Enc.enc m2), .int .i64 (tk : Int), .int .i64 er]) rfl ?_)
    refine WL.op rfl (opW.extract rfl rfl ?_)
    refine WL.op rfl (opW.extract rfl rfl ?_)
    refine WL.op rfl (opW.extract rfl rfl ?_)
    refine WL.op rfl (opW.allocA hS ?_)
    intro b7 w _ hS
    refine WL.op0 (opW.storeE (r := m2) hS rfl rfl (by first | exact .h0 | exact .h1 | exact .h2 | exact .h3 | exact .h4 | exact .h5 | exact .h6 | exact .h7 | exact .h8 | exact .h9 | exact .h10 | exact .h11 | exact .h12 | exact .h13 | exact .h14) (by rw [mg_zero2]; exact Enc.size_eq _) ?_)
    intro w hS; replace hS := hS _ (by first | exact .h0 | exact .h1 | exact .h2 | exact .h3 | exact .h4 | exact .h5 | exact .h6 | exact .h7 | exact .h8 | exact .h9 | exact .h10 | exact .h11 | exact .h12 | exact .h13 | exact .h14)
    refine WL.op rfl (opW.assignI rfl ?_)
    refine WL.op rfl (opW.assignI rfl ?_)
    refine WL.nil ?_
    refine thenQ_n (hK7 _ _ ?_)
    refine WC.seq (fun K8 hK8 => ?_)
    refine WC.seq (fun K9 hK9 => ?_)
    refine WC.region ?_
    refine WL.op rfl (opW.loadV rfl (hS.ldA (cs := Enc.enc m) (by first | exact .h0 | exact .h1 | exact .h2 | exact .h3 | exact .h4 | exact .h5 | exact .h6 | exact .h7 | exact .h8 | exact .h9 | exact .h10 | exact .h11 | exact .h12 | exact .h13 | exact .h14) (by exact Enc.size_eq _)) ?_)
    refine WL.op rfl (opW.loadV rfl (hS.ldA (cs := Enc.enc m2) (by first | exact .h0 | exact .h1 | exact .h2 | exact .h3 | exact .h4 | exact .h5 | exact .h6 | exact .h7 | exact .h8 | exact .h9 | exact .h10 | exact .h11 | exact .h12 | exact .h13 | exact .h14) (by exact Enc.size_eq _)) ?_)
    refine WL.op rfl (opW.call (sameMsg_ok _ m m2 cg cg is is2 ls ls2 (hgm.isM (show St w0 [ownE m.keys.v 53 cg.keys, ownE m.instrs.v 52 is, b2E (zipI is cg.ins), ownE m.lookups.v 55 ls, b2E (zipL ls cg.lks)] _ from hS.sub (by repeat (first | with_reducible exact List.nil_sublist _ | with_reducible exact List.Sublist.refl _ | with_reducible refine List.Sublist.cons₂ _ ?_ | with_reducible refine List.Sublist.cons _ ?_)))) (hgm2.isM (show St w0 [ownE m2.keys.v 53 cg.keys, ownE m2.instrs.v 52 is2, b2E (zipI is2 cg.ins), ownE m2.lookups.v 55 ls2, b2E (zipL ls2 cg.lks)] _ from hS.sub (by repeat (first | with_reducible exact List.nil_sublist _ | with_reducible exact List.Sublist.refl _ | with_reducible refine List.Sublist.cons₂ _ ?_ | with_reducible refine List.Sublist.cons _ ?_))))) rfl ?_)
    rintro _ w ⟨rfl, hw⟩; replace hS := hS.bel hw
    rw [decide_eq_true (rfl : cg = cg)]
    refine WL.op rfl (opW.not rfl ?_)
    refine WL.op rfl (opW.moveB rfl ?_)
    refine WL.gT 33 rfl rfl rfl (WL.op rfl (opW.moveI rfl ?_))
    refine WL.gT 33 rfl rfl rfl (WL.op rfl (opW.moveI rfl ?_))
    refine WL.gT 33 rfl rfl rfl (WL.op rfl (opW.boolF (by simp) (opW.neq rfl rfl ⟨rfl, rfl⟩) ?_))
    refine WL.op rfl (opW.pickT rfl rfl ?_)
    refine WL.op rfl (opW.moveB rfl ?_)
    refine WL.gT 38 rfl rfl rfl (WL.op rfl (opW.moveI rfl ?_))
    refine WL.gT 38 rfl rfl rfl (WL.op rfl (opW.moveI rfl ?_))
    refine WL.gT 38 rfl rfl rfl (WL.op rfl (opW.boolF (by simp) (opW.neq rfl rfl ⟨rfl, rfl⟩) ?_))
    refine WL.op rfl (opW.pickT rfl rfl ?_)
    refine WL.op rfl (opW.moveB rfl ?_)
    refine WL.gT 43 rfl rfl rfl (WL.op rfl (opW.moveV (v := st.v) rfl ?_))
    refine WL.gT 43 rfl rfl rfl (WL.op rfl (opW.moveV (v := sb.v) rfl ?_))
    refine WL.gT 43 rfl rfl rfl (WL.op rfl (opW.call (leftBytes2 _ fv st.v sb.v xs hu16 hcf (hS.sl (v := fv) (xs := xs ++ [165, 165, 165]) (by first | exact .h0 | exact .h1 | exact .h2 | exact .h3 | exact .h4 | exact .h5 | exact .h6 | exact .h7 | exact .h8 | exact .h9 | exact .h10 | exact .h11 | exact .h12 | exact .h13 | exact .h14)) (hb.bel hS.old)) rfl ?_))
    rintro _ w ⟨rfl, hw⟩; replace hS := hS.bel hw
    refine WL.gT 43 rfl rfl rfl (WL.op rfl (opW.not rfl ?_))
    refine WL.op rfl (opW.pickT rfl rfl ?_)
    refine WL.nil ?_
    refine thenQ_n (hK9 _ _ ?_)
    refine WC.cond _ rfl (fun hc1 => ?_) (fun hc1 => ?_)
    ·
      have hr1 := hc1
      try simp only [decide_eq_true_eq, decide_eq_false_iff_not, Bool.and_eq_true, Bool.or_eq_true, Bool.and_eq_false_iff, Bool.or_eq_false_iff, Bool.not_eq_true', Bool.not_eq_false', Int.not_lt, Int.not_le] at hc1
      simp at hr1
    ·
      have hr1 := hc1
      try simp only [decide_eq_true_eq, decide_eq_false_iff_not, Bool.and_eq_true, Bool.or_eq_true, Bool.and_eq_false_iff, Bool.or_eq_false_iff, Bool.not_eq_true', Bool.not_eq_false', Int.not_lt, Int.not_le] at hc1
      refine WC.skip ?_
      refine thenQ_n (hK8 _ _ ?_)
      refine WC.seq (fun K10 hK10 => ?_)
      refine WC.region ?_
      refine WL.op rfl (opW.buildE (r := (⟨⟨none, 0, 0⟩⟩ : BookS)) (ps := BookS.parts (⟨⟨none, 0, 0⟩⟩ : BookS)) (BookS.enc_eq _) (by first | rfl | (simp only [markK, enc_vset, enc_vz, Header.enc_eq, Header.parts, Instr.enc_eq, Instr.parts, Lookup.enc_eq, Lookup.parts, Message.enc_eq, Message.parts, Reader.enc_eq, Reader.parts, Stop.enc_eq, Stop.parts, Taker.enc_eq, Taker.parts, ShByte.enc_eq, ShByte.parts, ShKey.enc_eq, ShKey.parts, BookS.enc_eq, BookS.parts]; rfl)) (by (repeat' (first | exact trivial | refine And.intro ?_ ?_)) <;> first | rfl | exact Enc.size_eq _ | (simp; done)) ?_)
      refine WL.op rfl (opW.allocA hS ?_)
      intro b10 w _ hS
      refine WL.op0 (opW.storeE (r := (⟨⟨none, 0, 0⟩⟩ : BookS)) hS rfl rfl (by first | exact .h0 | exact .h1 | exact .h2 | exact .h3 | exact .h4 | exact .h5 | exact .h6 | exact .h7 | exact .h8 | exact .h9 | exact .h10 | exact .h11 | exact .h12 | exact .h13 | exact .h14) rfl ?_)
      intro w hS; replace hS := hS _ (by first | exact .h0 | exact .h1 | exact .h2 | exact .h3 | exact .h4 | exact .h5 | exact .h6 | exact .h7 | exact .h8 | exact .h9 | exact .h10 | exact .h11 | exact .h12 | exact .h13 | exact .h14)
      refine WL.nil ?_
      refine thenQ_n (hK10 _ _ ?_)
      refine WC.seq (fun K11 hK11 => ?_)
      refine WC.region ?_
      replace hS := hS.ownFront (v := fv) (E := 5) (xs := xs ++ [165, 165, 165]) (k := xs.length) (m := xs.length + 3) (by simp) (by omega) (by omega) (by first | exact .h0 | exact .h1 | exact .h2 | exact .h3 | exact .h4 | exact .h5 | exact .h6 | exact .h7 | exact .h8 | exact .h9 | exact .h10 | exact .h11 | exact .h12 | exact .h13 | exact .h14)
      rw [List.take_left, ← hu16] at hS
      replace hS := (hS.pick (e := blkE b10 (Enc.enc (BookS.mk ⟨none, 0, 0⟩)) 42) (by first | exact .h0 | exact .h1 | exact .h2 | exact .h3 | exact .h4 | exact .h5 | exact .h6 | exact .h7 | exact .h8 | exact .h9 | exact .h10 | exact .h11 | exact .h12 | exact .h13 | exact .h14)).bkNew
      replace hS := (hS.pick (e := ownE st.v 5 xs) (by first | exact .h0 | exact .h1 | exact .h2 | exact .h3 | exact .h4 | exact .h5 | exact .h6 | exact .h7 | exact .h8 | exact .h9 | exact .h10 | exact .h11 | exact .h12 | exact .h13 | exact .h14)).pick (e := bkE b10 ⟨none, 0, 0⟩ []) (by first | exact .h0 | exact .h1 | exact .h2 | exact .h3 | exact .h4 | exact .h5 | exact .h6 | exact .h7 | exact .h8 | exact .h9 | exact .h10 | exact .h11 | exact .h12 | exact .h13 | exact .h14)
      refine WL.op rfl (opW.moveV (v := st.v) rfl ?_)
      refine WL.op rfl (opW.call (bkBytes_ok _ _ _ b10 ⟨none, 0, 0⟩ [] st.v xs (by decide) hS) rfl ?_)
      rintro v51 w ⟨sv1, g1, hS⟩
      refine WL.nil ?_
      refine thenQ_n (hK11 _ _ ?_)
      refine WC.seq (fun K12 hK12 => ?_)
      refine WC.region ?_
      replace hS := (((hS.pick (e := b2E (zipL ls cg.lks)) (by first | exact .h0 | exact .h1 | exact .h2 | exact .h3 | exact .h4 | exact .h5 | exact .h6 | exact .h7 | exact .h8 | exact .h9 | exact .h10 | exact .h11 | exact .h12 | exact .h13 | exact .h14)).pick (e := b2E (zipI is cg.ins)) (by first | exact .h0 | exact .h1 | exact .h2 | exact .h3 | exact .h4 | exact .h5 | exact .h6 | exact .h7 | exact .h8 | exact .h9 | exact .h10 | exact .h11 | exact .h12 | exact .h13 | exact .h14)).pick (e := ownE m.keys.v 53 cg.keys) (by first | exact .h0 | exact .h1 | exact .h2 | exact .h3 | exact .h4 | exact .h5 | exact .h6 | exact .h7 | exact .h8 | exact .h9 | exact .h10 | exact .h11 | exact .h12 | exact .h13 | exact .h14)).pick (e := bkE b10 sv1 ([] ++ [g1])) (by first | exact .h0 | exact .h1 | exact .h2 | exact .h3 | exact .h4 | exact .h5 | exact .h6 | exact .h7 | exact .h8 | exact .h9 | exact .h10 | exact .h11 | exact .h12 | exact .h13 | exact .h14)
      have hl1 := hgm.2.2.2.1
      have hl2 := hgm.2.2.2.2.2.1
      unfold MC.size at hsz2
      refine WL.op rfl (opW.loadV rfl (hS.ldA (cs := Enc.enc m) (by first | exact .h0 | exact .h1 | exact .h2 | exact .h3 | exact .h4 | exact .h5 | exact .h6 | exact .h7 | exact .h8 | exact .h9 | exact .h10 | exact .h11 | exact .h12 | exact .h13 | exact .h14) (by exact Enc.size_eq _)) ?_)
      refine WL.op rfl (opW.call (bkMsg_ok _ _ _ b10 sv1 ([] ++ [g1]) m cg is ls hS (fun w hw => hw.sl (v := m.instrs.v) (xs := is) (by first | exact .h0 | exact .h1 | exact .h2 | exact .h3 | exact .h4 | exact .h5 | exact .h6 | exact .h7 | exact .h8 | exact .h9 | exact .h10 | exact .h11 | exact .h12 | exact .h13 | exact .h14)) (fun w hw => hw.sl (v := m.lookups.v) (xs := ls) (by first | exact .h0 | exact .h1 | exact .h2 | exact .h3 | exact .h4 | exact .h5 | exact .h6 | exact .h7 | exact .h8 | exact .h9 | exact .h10 | exact .h11 | exact .h12 | exact .h13 | exact .h14)) hgm.2.2.2.1 hgm.2.2.2.2.2.1 (by simp only [List.nil_append, List.length_cons, List.length_nil]; omega)) rfl ?_)
      rintro v53 w ⟨sv2, pg2, hpl, hS⟩
      refine WL.nil ?_
      refine thenQ_n (hK12 _ _ ?_)
      refine WC.seq (fun K13 hK13 => ?_)
      refine WC.region ?_
      refine WL.op rfl (opW.call (apart_ok _ _ _ b10 sv2 pg2 hS) rfl ?_)
      rintro _ w ⟨rfl, hS⟩
      refine WL.op rfl (opW.moveB rfl ?_)
      refine WL.gT 55 rfl rfl rfl (WL.op rfl (opW.call (lives_ok _) rfl ?_))
      rintro _ w ⟨rfl, hw⟩; replace hS := hS.bel hw
      refine WL.op rfl (opW.pickT rfl rfl ?_)
      refine WL.op rfl (opW.assignB rfl ?_)
      refine WL.nil ?_
      refine thenQ_n (hK13 _ _ ?_)
      refine WC.ret ?_
      refine bodyQ_ret (.tmpB rfl .nil) ?_
      exact ⟨rfl, hS.old⟩

end Go.Fer
