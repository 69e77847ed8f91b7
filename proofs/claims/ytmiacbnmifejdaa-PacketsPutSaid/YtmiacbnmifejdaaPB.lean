/- the document: Put -/
import Derived.Test.YtmiacbnmifejdaaPD
import Derived.Test.YtmiacbnmifejdaaI
set_option linter.all false
namespace Go.Fer
open Go Go.Proofs Go.RowKit

set_option maxRecDepth 20000 in
set_option maxHeartbeats 4000000 in
theorem rput_ok (w0 : World) (m : Message) (c : MC) (ins : List Instr) (lks : List Lookup) (hc : IsM w0 m c ins lks) (hsz0 : c.size ≤ 100000) : Ret Try.prog 33 #[.agg (Enc.enc m)] w0 (fun u w' => ∃ v e, u = .tuple #[v, .int .i64 e] ∧ ((mayF c = false ∧ v = .slice none 0 0 ∧ e = 1) ∨ (mayF c = true ∧ New w0 w' v 5 (putF c) ∧ e = 0)) ∧ Bel w0 w') := by
  refine Ret.enter (args := [.agg (Enc.enc m)]) Try.func33 rfl Try.ntmps33 Try.results33 rfl ?_
  have hS := St.start w0
  refine WC.seq (fun K1 hK1 => ?_)
  refine WC.region ?_
  refine WL.op rfl (opW.boxA hS rfl ?_)
  intro b1 w _ hS
  refine WL.op rfl (opW.assignV (v := .slice none 0 0) rfl ?_)
  refine WL.op rfl (opW.assignI rfl ?_)
  refine WL.nil ?_
  refine thenQ_n (hK1 _ _ ?_)
  refine WC.seq (fun K2 hK2 => ?_)
  refine WC.seq (fun K3 hK3 => ?_)
  refine WC.region ?_
  refine WL.op rfl (opW.loadV rfl (hS.ldA (cs := Enc.enc m) (by first | exact .h0 | exact .h1 | exact .h2 | exact .h3 | exact .h4 | exact .h5 | exact .h6 | exact .h7 | exact .h8 | exact .h9 | exact .h10 | exact .h11 | exact .h12 | exact .h13 | exact .h14) (by exact Enc.size_eq _)) ?_)
  refine WL.op rfl (opW.call (rmay_ok _ m c ins lks (hc.bel hS.old)) rfl ?_)
  rintro _ w ⟨rfl, hw⟩; replace hS := hS.bel hw
  refine WL.op rfl (opW.not rfl ?_)
  refine WL.nil ?_
  refine thenQ_n (hK3 _ _ ?_)
  refine WC.cond _ rfl (fun hc0 => ?_) (fun hc0 => ?_)
  ·
    have hr0 := hc0
    try simp only [decide_eq_true_eq, decide_eq_false_iff_not, Bool.and_eq_true, Bool.or_eq_true, Bool.and_eq_false_iff, Bool.or_eq_false_iff, Bool.not_eq_true', Bool.not_eq_false', Int.not_lt, Int.not_le] at hc0
    have hmay : mayF c = false := by simpa using hr0
    refine WC.seq (fun K4 hK4 => ?_)
    refine WC.region ?_
    refine WL.op rfl (opW.assignV (v := .slice none 0 0) rfl ?_)
    refine WL.op rfl (opW.assignI rfl ?_)
    refine WL.nil ?_
    refine thenQ_n (hK4 _ _ ?_)
    refine WC.ret ?_
    refine thenQ_r ?_
    refine bodyQ_ret (.tmpV (v := .slice none 0 0) rfl (.tmpI rfl .nil)) ?_
    exact ⟨_, _, rfl, .inl ⟨hmay, rfl, rfl⟩, hS.old⟩
  ·
    have hr0 := hc0
    try simp only [decide_eq_true_eq, decide_eq_false_iff_not, Bool.and_eq_true, Bool.or_eq_true, Bool.and_eq_false_iff, Bool.or_eq_false_iff, Bool.not_eq_true', Bool.not_eq_false', Int.not_lt, Int.not_le] at hc0
    have hmay : mayF c = true := by simpa using hr0
    obtain ⟨hkl, hil, hll, hie, hle⟩ := mayF_lens hmay
    have hki := hc.ii.1
    have hkl2 := hc.ll.1
    refine WC.skip ?_
    refine thenQ_n (hK2 _ _ ?_)
    refine WC.seq (fun K5 hK5 => ?_)
    refine WC.region ?_
    refine WL.op rfl (opW.assignV (v := .slice none 0 0) rfl ?_)
    replace hS := hS.nilOwn (α := UInt8) 5
    refine WL.nil ?_
    refine thenQ_n (hK5 _ _ ?_)
    refine WC.mid (fun f w => ∃ v : Value, Fits [(1, .pointer (some ⟨b1, 0, none⟩)), (4, v)] f ∧ St w0 [ownE (v) 5 ((if c.v0 = true then ([128] : List UInt8) else [])), blkE b1 (Enc.enc m) 31] w) ?_ ?_
    ·
      refine WC.seq (fun K6 hK6 => ?_)
      refine WC.region ?_
      refine WL.op rfl (opW.fieldAddrB rfl ?_)
      refine WL.op rfl (opW.loadV rfl (hS.ld1 (by first | exact .h0 | exact .h1 | exact .h2 | exact .h3 | exact .h4 | exact .h5 | exact .h6 | exact .h7 | exact .h8 | exact .h9 | exact .h10 | exact .h11 | exact .h12 | exact .h13 | exact .h14) (Message.at_v0 m)) ?_)
      refine WL.nil ?_
      refine thenQ_n (hK6 _ _ ?_)
      refine WC.cond _ rfl (fun hc1 => ?_) (fun hc1 => ?_)
      ·
        have hr1 := hc1
        try simp only [decide_eq_true_eq, decide_eq_false_iff_not, Bool.and_eq_true, Bool.or_eq_true, Bool.and_eq_false_iff, Bool.or_eq_false_iff, Bool.not_eq_true', Bool.not_eq_false', Int.not_lt, Int.not_le] at hc1
        have hv0 : c.v0 = true := by rw [← hc.v0]; exact hr1
        refine WC.region ?_
        refine WL.op rfl (opW.moveV (v := .slice none 0 0) rfl ?_)
        refine WL.op rfl (opW.buildSl hS (([128] : List UInt8)) [.int .u8 128] rfl rfl rfl rfl (by decide) ?_)
        intro b14 w hw hS
        refine WL.op rfl (opW.appendOwn (α := UInt8) (v := .slice none 0 0) (xs := ([] : List UInt8)) rfl hS rfl (by first | exact .h0 | exact .h1 | exact .h2 | exact .h3 | exact .h4 | exact .h5 | exact .h6 | exact .h7 | exact .h8 | exact .h9 | exact .h10 | exact .h11 | exact .h12 | exact .h13 | exact .h14) (hS.sl (v := .slice (some ⟨b14, 0, none⟩) 1 1) (xs := ([128] : List UInt8)) (by first | exact .h0 | exact .h1 | exact .h2 | exact .h3 | exact .h4 | exact .h5 | exact .h6 | exact .h7 | exact .h8 | exact .h9 | exact .h10 | exact .h11 | exact .h12 | exact .h13 | exact .h14)) (by (try simp only [List.length_append, List.length_cons, List.length_nil, Vector.length_toList]); omega) (by (try simp only [List.length_append, List.length_cons, List.length_nil, Vector.length_toList, maxLen]); omega) ?_)
        intro v15 w hS; replace hS := hS _ (by first | exact .h0 | exact .h1 | exact .h2 | exact .h3 | exact .h4 | exact .h5 | exact .h6 | exact .h7 | exact .h8 | exact .h9 | exact .h10 | exact .h11 | exact .h12 | exact .h13 | exact .h14)
        refine WL.op rfl (opW.assignV (v := v15) rfl ?_)
        simp only [List.nil_append] at hS
        have hSm : St w0 [ownE (v15) 5 ((if c.v0 = true then ([128] : List UInt8) else [])), blkE b1 (Enc.enc m) 31] w := by
          rw [hv0]
          exact (show St w0 [ownE (v15) 5 ([128]), blkE b1 (Enc.enc m) 31] w from hS.sub (by repeat (first | with_reducible exact List.nil_sublist _ | with_reducible exact List.Sublist.refl _ | with_reducible refine List.Sublist.cons₂ _ ?_ | with_reducible refine List.Sublist.cons _ ?_)))
        refine WL.nil ?_
        refine thenQ_n ?_
        exact ⟨_, ⟨rfl, rfl, trivial⟩, hSm⟩
      ·
        have hr1 := hc1
        try simp only [decide_eq_true_eq, decide_eq_false_iff_not, Bool.and_eq_true, Bool.or_eq_true, Bool.and_eq_false_iff, Bool.or_eq_false_iff, Bool.not_eq_true', Bool.not_eq_false', Int.not_lt, Int.not_le] at hc1
        have hv0 : c.v0 = false := by rw [← hc.v0]; exact hr1
        have hSm : St w0 [ownE (.slice none 0 0) 5 ((if c.v0 = true then ([128] : List UInt8) else [])), blkE b1 (Enc.enc m) 31] w := by
          rw [hv0]
          exact (show St w0 [ownE (.slice none 0 0) 5 ([]), blkE b1 (Enc.enc m) 31] w from hS.sub (by repeat (first | with_reducible exact List.nil_sublist _ | with_reducible exact List.Sublist.refl _ | with_reducible refine List.Sublist.cons₂ _ ?_ | with_reducible refine List.Sublist.cons _ ?_)))
        refine WC.skip ?_
        refine thenQ_n ?_
        exact ⟨_, ⟨rfl, rfl, trivial⟩, hSm⟩
    ·
      rintro f w ⟨v, hfit, hS⟩
      refine WC.fits _ hfit (fun g => ?_)
      clear hfit
      have hpl : ((if c.v0 = true then ([128] : List UInt8) else [])).length ≤ 1 := by split <;> simp
      refine WC.seq (fun K7 hK7 => ?_)
      refine WC.region ?_
      refine WL.op rfl (opW.moveV (v := v) rfl ?_)
      refine WL.op rfl (opW.fieldAddrB rfl ?_)
      refine WL.op rfl (opW.fieldAddrB rfl ?_)
      refine WL.op rfl (opW.loadV rfl (hS.ld1 (by first | exact .h0 | exact .h1 | exact .h2 | exact .h3 | exact .h4 | exact .h5 | exact .h6 | exact .h7 | exact .h8 | exact .h9 | exact .h10 | exact .h11 | exact .h12 | exact .h13 | exact .h14) (Message.at_header_signers m)) ?_)
      refine WL.op rfl (opW.fieldAddrB rfl ?_)
      refine WL.op rfl (opW.fieldAddrB rfl ?_)
      refine WL.op rfl (opW.loadV rfl (hS.ld1 (by first | exact .h0 | exact .h1 | exact .h2 | exact .h3 | exact .h4 | exact .h5 | exact .h6 | exact .h7 | exact .h8 | exact .h9 | exact .h10 | exact .h11 | exact .h12 | exact .h13 | exact .h14) (Message.at_header_readSigned m)) ?_)
      refine WL.op rfl (opW.fieldAddrB rfl ?_)
      refine WL.op rfl (opW.fieldAddrB rfl ?_)
      refine WL.op rfl (opW.loadV rfl (hS.ld1 (by first | exact .h0 | exact .h1 | exact .h2 | exact .h3 | exact .h4 | exact .h5 | exact .h6 | exact .h7 | exact .h8 | exact .h9 | exact .h10 | exact .h11 | exact .h12 | exact .h13 | exact .h14) (Message.at_header_readOther m)) ?_)
      refine WL.op rfl (opW.buildSl hS (([m.header.signers, m.header.readSigned, m.header.readOther] : List UInt8)) [.int .u8 (m.header.signers.toNat : Int), .int .u8 (m.header.readSigned.toNat : Int), .int .u8 (m.header.readOther.toNat : Int)] rfl rfl rfl rfl (by decide) ?_)
      intro b26 w hw hS
      refine WL.op rfl (opW.appendOwn (α := UInt8) (v := v) (xs := (if c.v0 = true then ([128] : List UInt8) else [])) rfl hS rfl (by first | exact .h0 | exact .h1 | exact .h2 | exact .h3 | exact .h4 | exact .h5 | exact .h6 | exact .h7 | exact .h8 | exact .h9 | exact .h10 | exact .h11 | exact .h12 | exact .h13 | exact .h14) (hS.sl (v := .slice (some ⟨b26, 0, none⟩) 3 3) (xs := [m.header.signers, m.header.readSigned, m.header.readOther]) (by first | exact .h0 | exact .h1 | exact .h2 | exact .h3 | exact .h4 | exact .h5 | exact .h6 | exact .h7 | exact .h8 | exact .h9 | exact .h10 | exact .h11 | exact .h12 | exact .h13 | exact .h14)) (by (try simp only [List.length_append, List.length_cons, List.length_nil, Vector.length_toList]); omega) (by (try simp only [List.length_append, List.length_cons, List.length_nil, Vector.length_toList, maxLen]); omega) ?_)
      intro v27 w hS; replace hS := hS _ (by first | exact .h0 | exact .h1 | exact .h2 | exact .h3 | exact .h4 | exact .h5 | exact .h6 | exact .h7 | exact .h8 | exact .h9 | exact .h10 | exact .h11 | exact .h12 | exact .h13 | exact .h14)
      refine WL.op rfl (opW.assignV (v := v27) rfl ?_)
      replace hS : St w0 [ownE (v27) 5 (putH c), blkE b1 (Enc.enc m) 31] w := by
        unfold putH; rw [← hc.h]
        exact ((hS.pick (e := ownE v27 5 ((if c.v0 = true then ([128] : List UInt8) else []) ++ [m.header.signers, m.header.readSigned, m.header.readOther])) (by first | exact .h0 | exact .h1 | exact .h2 | exact .h3 | exact .h4 | exact .h5 | exact .h6 | exact .h7 | exact .h8 | exact .h9 | exact .h10 | exact .h11 | exact .h12 | exact .h13 | exact .h14)).sub (by repeat (first | with_reducible exact List.nil_sublist _ | with_reducible exact List.Sublist.refl _ | with_reducible refine List.Sublist.cons₂ _ ?_ | with_reducible refine List.Sublist.cons _ ?_)))
      have hl0 := putH_len c
      refine WL.nil ?_
      refine thenQ_n (hK7 _ _ ?_)
      refine WC.seq (fun K8 hK8 => ?_)
      refine WC.region ?_
      refine WL.op rfl (opW.moveV (v := v27) rfl ?_)
      refine WL.op rfl (opW.fieldAddrB rfl ?_)
      refine WL.op rfl (opW.loadV rfl (hS.ld1 (by first | exact .h0 | exact .h1 | exact .h2 | exact .h3 | exact .h4 | exact .h5 | exact .h6 | exact .h7 | exact .h8 | exact .h9 | exact .h10 | exact .h11 | exact .h12 | exact .h13 | exact .h14) (Message.at_keys m)) ?_)
      refine WL.op rfl (opW.lenV rfl ((hc.k.bel hS.old)) ?_)
      refine WL.op rfl (opW.call (rshort_ok _ c.keys.length (by omega)) rfl ?_)
      rintro v32 w ⟨hn32, hw⟩; replace hS := hS.newOwn hw hn32.1 hn32.2
      have hsb := shortB_le c.keys.length
      refine WL.op rfl (opW.appendOwn (α := UInt8) (v := v27) (xs := putH c) rfl hS rfl (by first | exact .h0 | exact .h1 | exact .h2 | exact .h3 | exact .h4 | exact .h5 | exact .h6 | exact .h7 | exact .h8 | exact .h9 | exact .h10 | exact .h11 | exact .h12 | exact .h13 | exact .h14) (hS.sl (v := v32) (xs := shortB c.keys.length) (by first | exact .h0 | exact .h1 | exact .h2 | exact .h3 | exact .h4 | exact .h5 | exact .h6 | exact .h7 | exact .h8 | exact .h9 | exact .h10 | exact .h11 | exact .h12 | exact .h13 | exact .h14)) (by (try simp only [List.length_append, List.length_cons, List.length_nil, Vector.length_toList]); omega) (by (try simp only [List.length_append, List.length_cons, List.length_nil, Vector.length_toList, maxLen]); omega) ?_)
      intro v33 w hS; replace hS := hS _ (by first | exact .h0 | exact .h1 | exact .h2 | exact .h3 | exact .h4 | exact .h5 | exact .h6 | exact .h7 | exact .h8 | exact .h9 | exact .h10 | exact .h11 | exact .h12 | exact .h13 | exact .h14)
      refine WL.op rfl (opW.assignV (v := v33) rfl ?_)
      replace hS : St w0 [ownE (v33) 5 (put1 c 0), blkE b1 (Enc.enc m) 31] w := by
        unfold put1; rw [List.take_zero, List.flatMap_nil, List.append_nil]
        exact ((hS.pick (e := ownE v33 5 (putH c ++ shortB c.keys.length)) (by first | exact .h0 | exact .h1 | exact .h2 | exact .h3 | exact .h4 | exact .h5 | exact .h6 | exact .h7 | exact .h8 | exact .h9 | exact .h10 | exact .h11 | exact .h12 | exact .h13 | exact .h14)).sub (by repeat (first | with_reducible exact List.nil_sublist _ | with_reducible exact List.Sublist.refl _ | with_reducible refine List.Sublist.cons₂ _ ?_ | with_reducible refine List.Sublist.cons _ ?_)))
      refine WL.nil ?_
      refine thenQ_n (hK8 _ _ ?_)
      refine WC.seq (fun K9 hK9 => ?_)
      refine WC.seq (fun K10 hK10 => ?_)
      refine WC.region ?_
      refine WL.op rfl (opW.assignI rfl ?_)
      refine WL.nil ?_
      refine thenQ_n (hK10 _ _ ?_)
      refine WC.block ?_
      refine WC.loop (fun q f w => ∃ (k : Nat) (v : Value), Fits [(1, .pointer (some ⟨b1, 0, none⟩)), (4, v), (5, .int .i64 (k : Int))] f ∧ St w0 [ownE (v) 5 (put1 c k), blkE b1 (Enc.enc m) 31] w ∧ k ≤ c.keys.length ∧ q = c.keys.length - k) (c.keys.length) ?_ ?_
      ·
        exact ⟨0, _, ⟨rfl, rfl, rfl, trivial⟩, hS, Nat.zero_le _, rfl⟩
      ·
        rintro q f w ⟨k, v, hfit, hS, hk0, hm⟩
        refine WC.fits _ hfit (fun g => ?_)
        clear hfit
        refine WC.seq (fun K11 hK11 => ?_)
        refine WC.seq (fun K12 hK12 => ?_)
        refine WC.region ?_
        refine WL.op rfl (opW.moveI rfl ?_)
        refine WL.op rfl (opW.fieldAddrB rfl ?_)
        refine WL.op rfl (opW.loadV rfl (hS.ld1 (by first | exact .h0 | exact .h1 | exact .h2 | exact .h3 | exact .h4 | exact .h5 | exact .h6 | exact .h7 | exact .h8 | exact .h9 | exact .h10 | exact .h11 | exact .h12 | exact .h13 | exact .h14) (Message.at_keys m)) ?_)
        refine WL.op rfl (opW.lenV rfl ((hc.k.bel hS.old)) ?_)
        refine WL.op rfl (opW.lss rfl rfl ?_)
        refine WL.nil ?_
        refine thenQ_n (hK12 _ _ ?_)
        refine WC.cond _ rfl (fun hc2 => ?_) (fun hc2 => ?_)
        ·
          have hr2 := hc2
          try simp only [decide_eq_true_eq, decide_eq_false_iff_not, Bool.and_eq_true, Bool.or_eq_true, Bool.and_eq_false_iff, Bool.or_eq_false_iff, Bool.not_eq_true', Bool.not_eq_false', Int.not_lt, Int.not_le] at hc2
          have hkc : k < c.keys.length := by omega
          have hl1 := put1_len c k
          refine WC.skip ?_
          refine thenQ_n (hK11 _ _ ?_)
          refine WC.seq (fun K13 hK13 => ?_)
          refine WC.block ?_
          refine WC.region ?_
          refine WL.op rfl (opW.moveV (v := v) rfl ?_)
          refine WL.op rfl (opW.fieldAddrB rfl ?_)
          refine WL.op rfl (opW.loadV rfl (hS.ld1 (by first | exact .h0 | exact .h1 | exact .h2 | exact .h3 | exact .h4 | exact .h5 | exact .h6 | exact .h7 | exact .h8 | exact .h9 | exact .h10 | exact .h11 | exact .h12 | exact .h13 | exact .h14) (Message.at_keys m)) ?_)
          refine WL.op rfl (opW.moveI rfl ?_)
          refine WL.op rfl (opW.idxV (xs := c.keys) rfl (hc.k.bel hS.old) rfl (by omega) ?_)
          obtain ⟨bk, ok, hbk⟩ := (hc.k.bel hS.old).isP hkc
          refine WL.op rfl (opW.cutArrO hbk ?_)
          refine WL.op rfl (opW.appendOwn (α := UInt8) (v := v) (xs := put1 c k) rfl hS rfl (by first | exact .h0 | exact .h1 | exact .h2 | exact .h3 | exact .h4 | exact .h5 | exact .h6 | exact .h7 | exact .h8 | exact .h9 | exact .h10 | exact .h11 | exact .h12 | exact .h13 | exact .h14) (SlR.ofPt (n := 31) (v := c.keys[k]) (by rw [← hbk]; exact (hc.k.bel hS.old).isPt hkc) (by decide)) (by (try simp only [List.length_append, List.length_cons, List.length_nil, Vector.length_toList]); omega) (by (try simp only [List.length_append, List.length_cons, List.length_nil, Vector.length_toList, maxLen]); omega) ?_)
          intro v47 w hS; replace hS := hS _ (by first | exact .h0 | exact .h1 | exact .h2 | exact .h3 | exact .h4 | exact .h5 | exact .h6 | exact .h7 | exact .h8 | exact .h9 | exact .h10 | exact .h11 | exact .h12 | exact .h13 | exact .h14)
          refine WL.op rfl (opW.assignV (v := v47) rfl ?_)
          replace hS : St w0 [ownE (v47) 5 (put1 c (k + 1)), blkE b1 (Enc.enc m) 31] w := by
            have e1 : put1 c (k + 1) = put1 c k ++ c.keys[k].toList := by unfold put1; rw [fm_step _ hkc]; simp only [List.append_assoc]
            rw [e1]
            exact ((hS.pick (e := ownE v47 5 (put1 c k ++ c.keys[k].toList)) (by first | exact .h0 | exact .h1 | exact .h2 | exact .h3 | exact .h4 | exact .h5 | exact .h6 | exact .h7 | exact .h8 | exact .h9 | exact .h10 | exact .h11 | exact .h12 | exact .h13 | exact .h14)).sub (by repeat (first | with_reducible exact List.nil_sublist _ | with_reducible exact List.Sublist.refl _ | with_reducible refine List.Sublist.cons₂ _ ?_ | with_reducible refine List.Sublist.cons _ ?_)))
          refine WL.nil ?_
          refine blockQ_n ?_
          refine thenQ_n (hK13 _ _ ?_)
          refine WC.region ?_
          refine WL.op rfl (opW.moveI rfl ?_)
          refine WL.op rfl (opW.add rfl rfl (wrap_i64 (by omega)) ?_)
          refine WL.op rfl (opW.assignI rfl ?_)
          refine WL.nil ?_
          refine thenQ_n ?_
          exact ⟨c.keys.length - (k + 1), by omega, k + 1, _, ⟨rfl, rfl, congrArg (Value.int .i64) (by omega), trivial⟩, hS, by omega, rfl⟩
        ·
          have hr2 := hc2
          try simp only [decide_eq_true_eq, decide_eq_false_iff_not, Bool.and_eq_true, Bool.or_eq_true, Bool.and_eq_false_iff, Bool.or_eq_false_iff, Bool.not_eq_true', Bool.not_eq_false', Int.not_lt, Int.not_le] at hc2
          obtain rfl : k = c.keys.length := by omega
          have hl1 := put1_len c c.keys.length
          refine WC.exit ?_
          refine thenQ_e ?_
          refine thenQ_e ?_
          refine blockQ_hit ?_
          refine thenQ_n (hK9 _ _ ?_)
          refine WC.seq (fun K14 hK14 => ?_)
          refine WC.region ?_
          refine WL.op rfl (opW.moveV (v := v) rfl ?_)
          refine WL.op rfl (opW.fieldAddrB rfl ?_)
          refine WL.op rfl (opW.cutArrO rfl ?_)
          refine WL.op rfl (opW.appendOwn (α := UInt8) (v := v) (xs := put1 c c.keys.length) rfl hS rfl (by first | exact .h0 | exact .h1 | exact .h2 | exact .h3 | exact .h4 | exact .h5 | exact .h6 | exact .h7 | exact .h8 | exact .h9 | exact .h10 | exact .h11 | exact .h12 | exact .h13 | exact .h14) (SlR.ofPt (n := 31) (v := m.recent) (hS.ptO (cs := Enc.enc m) (c := Enc.enc m.recent) (by first | exact .h0 | exact .h1 | exact .h2 | exact .h3 | exact .h4 | exact .h5 | exact .h6 | exact .h7 | exact .h8 | exact .h9 | exact .h10 | exact .h11 | exact .h12 | exact .h13 | exact .h14) (by rw [Enc.size_eq]; exact Message.ex_recent m)) (by decide)) (by (try simp only [List.length_append, List.length_cons, List.length_nil, Vector.length_toList]); omega) (by (try simp only [List.length_append, List.length_cons, List.length_nil, Vector.length_toList, maxLen]); omega) ?_)
          intro v51 w hS; replace hS := hS _ (by first | exact .h0 | exact .h1 | exact .h2 | exact .h3 | exact .h4 | exact .h5 | exact .h6 | exact .h7 | exact .h8 | exact .h9 | exact .h10 | exact .h11 | exact .h12 | exact .h13 | exact .h14)
          refine WL.op rfl (opW.assignV (v := v51) rfl ?_)
          replace hS : St w0 [ownE (v51) 5 (put2 c), blkE b1 (Enc.enc m) 31] w := by
            unfold put2; rw [← hc.recent]
            exact ((hS.pick (e := ownE v51 5 (put1 c c.keys.length ++ m.recent.toList)) (by first | exact .h0 | exact .h1 | exact .h2 | exact .h3 | exact .h4 | exact .h5 | exact .h6 | exact .h7 | exact .h8 | exact .h9 | exact .h10 | exact .h11 | exact .h12 | exact .h13 | exact .h14)).sub (by repeat (first | with_reducible exact List.nil_sublist _ | with_reducible exact List.Sublist.refl _ | with_reducible refine List.Sublist.cons₂ _ ?_ | with_reducible refine List.Sublist.cons _ ?_)))
          have hl2 := put2_len c
          refine WL.nil ?_
          refine thenQ_n (hK14 _ _ ?_)
          refine WC.seq (fun K15 hK15 => ?_)
          refine WC.region ?_
          refine WL.op rfl (opW.moveV (v := v51) rfl ?_)
          refine WL.op rfl (opW.fieldAddrB rfl ?_)
          refine WL.op rfl (opW.loadV rfl (hS.ld1 (by first | exact .h0 | exact .h1 | exact .h2 | exact .h3 | exact .h4 | exact .h5 | exact .h6 | exact .h7 | exact .h8 | exact .h9 | exact .h10 | exact .h11 | exact .h12 | exact .h13 | exact .h14) (Message.at_instrs m)) ?_)
          refine WL.op rfl (opW.lenV rfl ((hc.i.bel hS.old)) ?_)
          refine WL.op rfl (opW.call (rshort_ok _ ins.length (by omega)) rfl ?_)
          rintro v56 w ⟨hn56, hw⟩; replace hS := hS.newOwn hw hn56.1 hn56.2
          have hsb := shortB_le ins.length
          refine WL.op rfl (opW.appendOwn (α := UInt8) (v := v51) (xs := put2 c) rfl hS rfl (by first | exact .h0 | exact .h1 | exact .h2 | exact .h3 | exact .h4 | exact .h5 | exact .h6 | exact .h7 | exact .h8 | exact .h9 | exact .h10 | exact .h11 | exact .h12 | exact .h13 | exact .h14) (hS.sl (v := v56) (xs := shortB ins.length) (by first | exact .h0 | exact .h1 | exact .h2 | exact .h3 | exact .h4 | exact .h5 | exact .h6 | exact .h7 | exact .h8 | exact .h9 | exact .h10 | exact .h11 | exact .h12 | exact .h13 | exact .h14)) (by (try simp only [List.length_append, List.length_cons, List.length_nil, Vector.length_toList]); omega) (by (try simp only [List.length_append, List.length_cons, List.length_nil, Vector.length_toList, maxLen]); omega) ?_)
          intro v57 w hS; replace hS := hS _ (by first | exact .h0 | exact .h1 | exact .h2 | exact .h3 | exact .h4 | exact .h5 | exact .h6 | exact .h7 | exact .h8 | exact .h9 | exact .h10 | exact .h11 | exact .h12 | exact .h13 | exact .h14)
          refine WL.op rfl (opW.assignV (v := v57) rfl ?_)
          replace hS : St w0 [ownE (v57) 5 (put3 c 0), blkE b1 (Enc.enc m) 31] w := by
            unfold put3; rw [List.take_zero, List.flatMap_nil, List.append_nil, ← hki]
            exact ((hS.pick (e := ownE v57 5 (put2 c ++ shortB ins.length)) (by first | exact .h0 | exact .h1 | exact .h2 | exact .h3 | exact .h4 | exact .h5 | exact .h6 | exact .h7 | exact .h8 | exact .h9 | exact .h10 | exact .h11 | exact .h12 | exact .h13 | exact .h14)).sub (by repeat (first | with_reducible exact List.nil_sublist _ | with_reducible exact List.Sublist.refl _ | with_reducible refine List.Sublist.cons₂ _ ?_ | with_reducible refine List.Sublist.cons _ ?_)))
          refine WL.nil ?_
          refine thenQ_n (hK15 _ _ ?_)
          refine WC.seq (fun K16 hK16 => ?_)
          refine WC.seq (fun K17 hK17 => ?_)
          refine WC.region ?_
          refine WL.op rfl (opW.assignI rfl ?_)
          refine WL.nil ?_
          refine thenQ_n (hK17 _ _ ?_)
          refine WC.block ?_
          refine WC.loop (fun q f w => ∃ (k : Nat) (v : Value), Fits [(1, .pointer (some ⟨b1, 0, none⟩)), (4, v), (6, .int .i64 (k : Int))] f ∧ St w0 [ownE (v) 5 (put3 c k), blkE b1 (Enc.enc m) 31] w ∧ k ≤ ins.length ∧ q = ins.length - k) (ins.length) ?_ ?_
          ·
            exact ⟨0, _, ⟨rfl, rfl, rfl, trivial⟩, hS, Nat.zero_le _, rfl⟩
          ·
            rintro q f w ⟨k, v, hfit, hS, hk0, hm⟩
            refine WC.fits _ hfit (fun g => ?_)
            clear hfit
            refine WC.seq (fun K18 hK18 => ?_)
            refine WC.seq (fun K19 hK19 => ?_)
            refine WC.region ?_
            refine WL.op rfl (opW.moveI rfl ?_)
            refine WL.op rfl (opW.fieldAddrB rfl ?_)
            refine WL.op rfl (opW.loadV rfl (hS.ld1 (by first | exact .h0 | exact .h1 | exact .h2 | exact .h3 | exact .h4 | exact .h5 | exact .h6 | exact .h7 | exact .h8 | exact .h9 | exact .h10 | exact .h11 | exact .h12 | exact .h13 | exact .h14) (Message.at_instrs m)) ?_)
            refine WL.op rfl (opW.lenV rfl ((hc.i.bel hS.old)) ?_)
            refine WL.op rfl (opW.lss rfl rfl ?_)
            refine WL.nil ?_
            refine thenQ_n (hK19 _ _ ?_)
            refine WC.cond _ rfl (fun hc3 => ?_) (fun hc3 => ?_)
            ·
              have hr3 := hc3
              try simp only [decide_eq_true_eq, decide_eq_false_iff_not, Bool.and_eq_true, Bool.or_eq_true, Bool.and_eq_false_iff, Bool.or_eq_false_iff, Bool.not_eq_true', Bool.not_eq_false', Int.not_lt, Int.not_le] at hc3
              have hkl2 : k < ins.length := by omega
              have hkc : k < c.ins.length := by omega
              obtain ⟨hp, hla, hld⟩ := hc.ii.2 k hkl2 hkc
              have hle1 := hie k hkc
              have hsz : c.ins[k].2.1.length + c.ins[k].2.2.length ≤ c.size := by have := sumB_ge hkc; unfold MC.size; omega
              have hl1 := put3_len c k
              refine WC.skip ?_
              refine thenQ_n (hK18 _ _ ?_)
              refine WC.seq (fun K20 hK20 => ?_)
              refine WC.block ?_
              refine WC.seq (fun K21 hK21 => ?_)
              refine WC.region ?_
              refine WL.op rfl (opW.moveV (v := v) rfl ?_)
              refine WL.op rfl (opW.fieldAddrB rfl ?_)
              refine WL.op rfl (opW.loadV rfl (hS.ld1 (by first | exact .h0 | exact .h1 | exact .h2 | exact .h3 | exact .h4 | exact .h5 | exact .h6 | exact .h7 | exact .h8 | exact .h9 | exact .h10 | exact .h11 | exact .h12 | exact .h13 | exact .h14) (Message.at_instrs m)) ?_)
              refine WL.op rfl (opW.moveI rfl ?_)
              refine WL.op rfl (opW.idxV rfl ((hc.i.bel hS.old)) rfl (by omega) ?_)
              refine WL.op rfl (opW.fieldAddr rfl ((hc.i.bel hS.old).isP hkl2) ?_)
              refine WL.op rfl (opW.loadV rfl (Ld.pt1 ((hc.i.bel hS.old).isPt hkl2) 0 (Instr.at_program _)) ?_)
              refine WL.op rfl (opW.buildSl hS (([ins[k].program] : List UInt8)) [.int .u8 (ins[k].program.toNat : Int)] rfl rfl rfl rfl (by decide) ?_)
              intro b72 w hw hS
              refine WL.op rfl (opW.appendOwn (α := UInt8) (v := v) (xs := put3 c k) rfl hS rfl (by first | exact .h0 | exact .h1 | exact .h2 | exact .h3 | exact .h4 | exact .h5 | exact .h6 | exact .h7 | exact .h8 | exact .h9 | exact .h10 | exact .h11 | exact .h12 | exact .h13 | exact .h14) (hS.sl (v := .slice (some ⟨b72, 0, none⟩) 1 1) (xs := [ins[k].program]) (by first | exact .h0 | exact .h1 | exact .h2 | exact .h3 | exact .h4 | exact .h5 | exact .h6 | exact .h7 | exact .h8 | exact .h9 | exact .h10 | exact .h11 | exact .h12 | exact .h13 | exact .h14)) (by (try simp only [List.length_append, List.length_cons, List.length_nil, Vector.length_toList]); omega) (by (try simp only [List.length_append, List.length_cons, List.length_nil, Vector.length_toList, maxLen]); omega) ?_)
              intro v73 w hS; replace hS := hS _ (by first | exact .h0 | exact .h1 | exact .h2 | exact .h3 | exact .h4 | exact .h5 | exact .h6 | exact .h7 | exact .h8 | exact .h9 | exact .h10 | exact .h11 | exact .h12 | exact .h13 | exact .h14)
              refine WL.op rfl (opW.assignV (v := v73) rfl ?_)
              replace hS := hS.pick (e := ownE v73 5 (put3 c k ++ [ins[k].program])) (by first | exact .h0 | exact .h1 | exact .h2 | exact .h3 | exact .h4 | exact .h5 | exact .h6 | exact .h7 | exact .h8 | exact .h9 | exact .h10 | exact .h11 | exact .h12 | exact .h13 | exact .h14)
              refine WL.nil ?_
              refine thenQ_n (hK21 _ _ ?_)
              refine WC.drawI 16 (.look 0 (.look 1 (.look 2 (.look 3 (.look 4 (.look 5 (.look 6 (.look 8 (.look 9 (.look 10 (.look 11 (.look 12 (.look 13 (.one 7 (.one 14 (.look 15 .nil)))))))))))))))) (by kernel_rfl) (fun _ _ _ h => h) (fun w1 hw1 => ?_)
              replace hS := hS.bel hw1
              have hS1 := hS
              refine ⟨fun w' => Bel w0 w' ∧ Ld Try.prog 28 w' (.pointer (some ⟨b1, 37, none⟩)) m.instrs.v, ⟨hS.old, hS.ld1 (by first | exact .h0 | exact .h1 | exact .h2 | exact .h3 | exact .h4 | exact .h5 | exact .h6 | exact .h7 | exact .h8 | exact .h9 | exact .h10 | exact .h11 | exact .h12 | exact .h13 | exact .h14) (Message.at_instrs m)⟩, ?_⟩
              refine ML.look rfl rfl rfl (fun w hw => (by skip; exact opW.moveV (v := v73) rfl ⟨rfl, rfl⟩)) ?_
              refine ML.look rfl rfl rfl (fun w hw => (by skip; exact opW.fieldAddrB rfl ⟨rfl, rfl⟩)) ?_
              refine ML.look rfl rfl rfl (fun w hw => (by skip; exact opW.loadV rfl (hw.2) ⟨rfl, rfl⟩)) ?_
              refine ML.look rfl rfl rfl (fun w hw => (by skip; exact opW.moveI rfl ⟨rfl, rfl⟩)) ?_
              refine ML.look rfl rfl rfl (fun w hw => (by skip; exact opW.idxV rfl ((hc.i.bel hw.1)) rfl (by omega) ⟨rfl, rfl⟩)) ?_
              refine ML.look rfl rfl rfl (fun w hw => (by skip; exact opW.fieldAddr rfl ((hc.i.bel hw.1).isP hkl2) ⟨rfl, rfl⟩)) ?_
              refine ML.look rfl rfl rfl (fun w hw => (by skip; exact opW.loadV rfl (Ld.pt1 ((hc.i.bel hw.1).isPt hkl2) 1 (Instr.at_accounts _)) ⟨rfl, rfl⟩)) ?_
              refine ML.look rfl rfl rfl (fun w hw => (by skip; exact opW.fieldAddrB rfl ⟨rfl, rfl⟩)) ?_
              refine ML.look rfl rfl rfl (fun w hw => (by skip; exact opW.loadV rfl (hw.2) ⟨rfl, rfl⟩)) ?_
              refine ML.look rfl rfl rfl (fun w hw => (by skip; exact opW.moveI rfl ⟨rfl, rfl⟩)) ?_
              refine ML.look rfl rfl rfl (fun w hw => (by skip; exact opW.idxV rfl ((hc.i.bel hw.1)) rfl (by omega) ⟨rfl, rfl⟩)) ?_
              refine ML.look rfl rfl rfl (fun w hw => (by skip; exact opW.fieldAddr rfl ((hc.i.bel hw.1).isP hkl2) ⟨rfl, rfl⟩)) ?_
              refine ML.look rfl rfl rfl (fun w hw => (by skip; exact opW.loadV rfl (Ld.pt1 ((hc.i.bel hw.1).isPt hkl2) 2 (Instr.at_data _)) ⟨rfl, rfl⟩)) ?_
              refine ML.one rfl rfl rfl (opW.call (rlist_ok _ _ _ v73 _ (put3 c k ++ [ins[k].program]) c.ins[k].2.1 (by omega) (by simp only [List.length_append, List.length_cons, List.length_nil]; omega) (fun w hw => hla.bel hw.old) hS) rfl ?_)
              rintro v81 w hS
              refine ⟨⟨hS.old, hS.ld1 (by first | exact .h0 | exact .h1 | exact .h2 | exact .h3 | exact .h4 | exact .h5 | exact .h6 | exact .h7 | exact .h8 | exact .h9 | exact .h10 | exact .h11 | exact .h12 | exact .h13 | exact .h14) (Message.at_instrs m)⟩, ?_⟩
              refine ML.one rfl rfl rfl (opW.call (rlist_ok _ _ _ v81 _ (put3 c k ++ [ins[k].program] ++ listB c.ins[k].2.1) c.ins[k].2.2 (by omega) (by have := listB_len c.ins[k].2.1; simp only [List.length_append, List.length_cons, List.length_nil]; omega) (fun w hw => hld.bel hw.old) hS) rfl ?_)
              rintro v88 w hS
              refine ⟨⟨hS.old, hS.ld1 (by first | exact .h0 | exact .h1 | exact .h2 | exact .h3 | exact .h4 | exact .h5 | exact .h6 | exact .h7 | exact .h8 | exact .h9 | exact .h10 | exact .h11 | exact .h12 | exact .h13 | exact .h14) (Message.at_instrs m)⟩, ?_⟩
              refine ML.look rfl rfl rfl (fun w hw => (by skip; exact opW.assignV (v := v88) rfl ⟨rfl, rfl⟩)) ?_
              refine ML.nil ?_
              replace hS : St w0 [ownE (v88) 5 (put3 c (k + 1)), blkE b1 (Enc.enc m) 31] w := by
                have e1 : put3 c (k + 1) = put3 c k ++ [ins[k].program] ++ listB c.ins[k].2.1 ++ (shortB c.ins[k].2.2.length ++ c.ins[k].2.2) := by unfold put3; rw [fm_step _ hkc, hp]; simp only [putI, listB, List.append_assoc, List.cons_append, List.nil_append]
                rw [e1]
                exact hS.sub (by repeat (first | with_reducible exact List.nil_sublist _ | with_reducible exact List.Sublist.refl _ | with_reducible refine List.Sublist.cons₂ _ ?_ | with_reducible refine List.Sublist.cons _ ?_))
              refine blockQ_n ?_
              refine thenQ_n (hK20 _ _ ?_)
              refine WC.region ?_
              refine WL.op rfl (opW.moveI rfl ?_)
              refine WL.op rfl (opW.add rfl rfl (wrap_i64 (by omega)) ?_)
              refine WL.op rfl (opW.assignI rfl ?_)
              refine WL.nil ?_
              refine thenQ_n ?_
              exact ⟨ins.length - (k + 1), by omega, k + 1, _, ⟨rfl, rfl, congrArg (Value.int .i64) (by omega), trivial⟩, hS, by omega, rfl⟩
            ·
              have hr3 := hc3
              try simp only [decide_eq_true_eq, decide_eq_false_iff_not, Bool.and_eq_true, Bool.or_eq_true, Bool.and_eq_false_iff, Bool.or_eq_false_iff, Bool.not_eq_true', Bool.not_eq_false', Int.not_lt, Int.not_le] at hc3
              obtain rfl : k = ins.length := by omega
              rw [hki] at hS
              have hl3 := put3_len c c.ins.length
              refine WC.exit ?_
              refine thenQ_e ?_
              refine thenQ_e ?_
              refine blockQ_hit ?_
              refine thenQ_n (hK16 _ _ ?_)
              refine WC.seq (fun K22 hK22 => ?_)
              refine WC.seq (fun K23 hK23 => ?_)
              refine WC.region ?_
              refine WL.op rfl (opW.fieldAddrB rfl ?_)
              refine WL.op rfl (opW.loadV rfl (hS.ld1 (by first | exact .h0 | exact .h1 | exact .h2 | exact .h3 | exact .h4 | exact .h5 | exact .h6 | exact .h7 | exact .h8 | exact .h9 | exact .h10 | exact .h11 | exact .h12 | exact .h13 | exact .h14) (Message.at_v0 m)) ?_)
              refine WL.nil ?_
              refine thenQ_n (hK23 _ _ ?_)
              refine WC.cond _ rfl (fun hc4 => ?_) (fun hc4 => ?_)
              ·
                have hr4 := hc4
                try simp only [decide_eq_true_eq, decide_eq_false_iff_not, Bool.and_eq_true, Bool.or_eq_true, Bool.and_eq_false_iff, Bool.or_eq_false_iff, Bool.not_eq_true', Bool.not_eq_false', Int.not_lt, Int.not_le] at hc4
                have hv0 : c.v0 = true := by rw [← hc.v0]; exact hr4
                refine WC.seq (fun K24 hK24 => ?_)
                refine WC.region ?_
                refine WL.op rfl (opW.moveV (v := v) rfl ?_)
                refine WL.op rfl (opW.fieldAddrB rfl ?_)
                refine WL.op rfl (opW.loadV rfl (hS.ld1 (by first | exact .h0 | exact .h1 | exact .h2 | exact .h3 | exact .h4 | exact .h5 | exact .h6 | exact .h7 | exact .h8 | exact .h9 | exact .h10 | exact .h11 | exact .h12 | exact .h13 | exact .h14) (Message.at_lookups m)) ?_)
                refine WL.op rfl (opW.lenV rfl ((hc.l.bel hS.old)) ?_)
                refine WL.op rfl (opW.call (rshort_ok _ lks.length (by omega)) rfl ?_)
                rintro v95 w ⟨hn95, hw⟩; replace hS := hS.newOwn hw hn95.1 hn95.2
                have hsb := shortB_le lks.length
                refine WL.op rfl (opW.appendOwn (α := UInt8) (v := v) (xs := put3 c c.ins.length) rfl hS rfl (by first | exact .h0 | exact .h1 | exact .h2 | exact .h3 | exact .h4 | exact .h5 | exact .h6 | exact .h7 | exact .h8 | exact .h9 | exact .h10 | exact .h11 | exact .h12 | exact .h13 | exact .h14) (hS.sl (v := v95) (xs := shortB lks.length) (by first | exact .h0 | exact .h1 | exact .h2 | exact .h3 | exact .h4 | exact .h5 | exact .h6 | exact .h7 | exact .h8 | exact .h9 | exact .h10 | exact .h11 | exact .h12 | exact .h13 | exact .h14)) (by (try simp only [List.length_append, List.length_cons, List.length_nil, Vector.length_toList]); omega) (by (try simp only [List.length_append, List.length_cons, List.length_nil, Vector.length_toList, maxLen]); omega) ?_)
                intro v96 w hS; replace hS := hS _ (by first | exact .h0 | exact .h1 | exact .h2 | exact .h3 | exact .h4 | exact .h5 | exact .h6 | exact .h7 | exact .h8 | exact .h9 | exact .h10 | exact .h11 | exact .h12 | exact .h13 | exact .h14)
                refine WL.op rfl (opW.assignV (v := v96) rfl ?_)
                replace hS : St w0 [ownE (v96) 5 (put4 c 0), blkE b1 (Enc.enc m) 31] w := by
                  unfold put4; rw [List.take_zero, List.flatMap_nil, List.append_nil, ← hkl2]
                  exact ((hS.pick (e := ownE v96 5 (put3 c c.ins.length ++ shortB lks.length)) (by first | exact .h0 | exact .h1 | exact .h2 | exact .h3 | exact .h4 | exact .h5 | exact .h6 | exact .h7 | exact .h8 | exact .h9 | exact .h10 | exact .h11 | exact .h12 | exact .h13 | exact .h14)).sub (by repeat (first | with_reducible exact List.nil_sublist _ | with_reducible exact List.Sublist.refl _ | with_reducible refine List.Sublist.cons₂ _ ?_ | with_reducible refine List.Sublist.cons _ ?_)))
                refine WL.nil ?_
                refine thenQ_n (hK24 _ _ ?_)
                refine WC.seq (fun K25 hK25 => ?_)
                refine WC.region ?_
                refine WL.op rfl (opW.assignI rfl ?_)
                refine WL.nil ?_
                refine thenQ_n (hK25 _ _ ?_)
                refine WC.block ?_
                refine WC.loop (fun q f w => ∃ (k : Nat) (v : Value), Fits [(1, .pointer (some ⟨b1, 0, none⟩)), (4, v), (7, .int .i64 (k : Int))] f ∧ St w0 [ownE (v) 5 (put4 c k), blkE b1 (Enc.enc m) 31] w ∧ k ≤ lks.length ∧ q = lks.length - k) (lks.length) ?_ ?_
                ·
                  exact ⟨0, _, ⟨rfl, rfl, rfl, trivial⟩, hS, Nat.zero_le _, rfl⟩
                ·
                  rintro q f w ⟨k, v, hfit, hS, hk0, hm⟩
                  refine WC.fits _ hfit (fun g => ?_)
                  clear hfit
                  refine WC.seq (fun K26 hK26 => ?_)
                  refine WC.seq (fun K27 hK27 => ?_)
                  refine WC.region ?_
                  refine WL.op rfl (opW.moveI rfl ?_)
                  refine WL.op rfl (opW.fieldAddrB rfl ?_)
                  refine WL.op rfl (opW.loadV rfl (hS.ld1 (by first | exact .h0 | exact .h1 | exact .h2 | exact .h3 | exact .h4 | exact .h5 | exact .h6 | exact .h7 | exact .h8 | exact .h9 | exact .h10 | exact .h11 | exact .h12 | exact .h13 | exact .h14) (Message.at_lookups m)) ?_)
                  refine WL.op rfl (opW.lenV rfl ((hc.l.bel hS.old)) ?_)
                  refine WL.op rfl (opW.lss rfl rfl ?_)
                  refine WL.nil ?_
                  refine thenQ_n (hK27 _ _ ?_)
                  refine WC.cond _ rfl (fun hc5 => ?_) (fun hc5 => ?_)
                  ·
                    have hr5 := hc5
                    try simp only [decide_eq_true_eq, decide_eq_false_iff_not, Bool.and_eq_true, Bool.or_eq_true, Bool.and_eq_false_iff, Bool.or_eq_false_iff, Bool.not_eq_true', Bool.not_eq_false', Int.not_lt, Int.not_le] at hc5
                    have hkl3 : k < lks.length := by omega
                    have hkc : k < c.lks.length := by omega
                    obtain ⟨hp, hla, hld⟩ := hc.ll.2 k hkl3 hkc
                    have hle1 := hle k hkc
                    have hsz : c.lks[k].2.1.length + c.lks[k].2.2.length ≤ c.size := by have := sumB_ge hkc; unfold MC.size; omega
                    have hl1 := put4_len c k
                    refine WC.skip ?_
                    refine thenQ_n (hK26 _ _ ?_)
                    refine WC.seq (fun K28 hK28 => ?_)
                    refine WC.block ?_
                    refine WC.seq (fun K29 hK29 => ?_)
                    refine WC.region ?_
                    refine WL.op rfl (opW.moveV (v := v) rfl ?_)
                    refine WL.op rfl (opW.fieldAddrB rfl ?_)
                    refine WL.op rfl (opW.loadV rfl (hS.ld1 (by first | exact .h0 | exact .h1 | exact .h2 | exact .h3 | exact .h4 | exact .h5 | exact .h6 | exact .h7 | exact .h8 | exact .h9 | exact .h10 | exact .h11 | exact .h12 | exact .h13 | exact .h14) (Message.at_lookups m)) ?_)
                    refine WL.op rfl (opW.moveI rfl ?_)
                    refine WL.op rfl (opW.idxV (xs := lks) rfl (hc.l.bel hS.old) rfl (by omega) ?_)
                    obtain ⟨bk, ok, hbk⟩ := (hc.l.bel hS.old).isP hkl3
                    refine WL.op rfl (opW.fieldAddrB hbk ?_)
                    refine WL.op rfl (opW.cutArrO rfl ?_)
                    refine WL.op rfl (opW.appendOwn (α := UInt8) (v := v) (xs := put4 c k) rfl hS rfl (by first | exact .h0 | exact .h1 | exact .h2 | exact .h3 | exact .h4 | exact .h5 | exact .h6 | exact .h7 | exact .h8 | exact .h9 | exact .h10 | exact .h11 | exact .h12 | exact .h13 | exact .h14) (SlR.ofPt (n := 31) (v := lks[k].table) (Pt.part (cs := Enc.enc lks[k]) (by rw [← hbk]; exact (hc.l.bel hS.old).isPt hkl3) (by rw [Enc.size_eq]; exact Lookup.ex_table lks[k])) (by decide)) (by (try simp only [List.length_append, List.length_cons, List.length_nil, Vector.length_toList]); omega) (by (try simp only [List.length_append, List.length_cons, List.length_nil, Vector.length_toList, maxLen]); omega) ?_)
                    intro v111 w hS; replace hS := hS _ (by first | exact .h0 | exact .h1 | exact .h2 | exact .h3 | exact .h4 | exact .h5 | exact .h6 | exact .h7 | exact .h8 | exact .h9 | exact .h10 | exact .h11 | exact .h12 | exact .h13 | exact .h14)
                    refine WL.op rfl (opW.assignV (v := v111) rfl ?_)
                    replace hS := hS.pick (e := ownE v111 5 (put4 c k ++ lks[k].table.toList)) (by first | exact .h0 | exact .h1 | exact .h2 | exact .h3 | exact .h4 | exact .h5 | exact .h6 | exact .h7 | exact .h8 | exact .h9 | exact .h10 | exact .h11 | exact .h12 | exact .h13 | exact .h14)
                    refine WL.nil ?_
                    refine thenQ_n (hK29 _ _ ?_)
                    refine WC.drawI 16 (.look 0 (.look 1 (.look 2 (.look 3 (.look 4 (.look 5 (.look 6 (.look 8 (.look 9 (.look 10 (.look 11 (.look 12 (.look 13 (.one 7 (.one 14 (.look 15 .nil)))))))))))))))) (by kernel_rfl) (fun _ _ _ h => h) (fun w1 hw1 => ?_)
                    replace hS := hS.bel hw1
                    have hS1 := hS
                    refine ⟨fun w' => Bel w0 w' ∧ Ld Try.prog 29 w' (.pointer (some ⟨b1, 38, none⟩)) m.lookups.v, ⟨hS.old, hS.ld1 (by first | exact .h0 | exact .h1 | exact .h2 | exact .h3 | exact .h4 | exact .h5 | exact .h6 | exact .h7 | exact .h8 | exact .h9 | exact .h10 | exact .h11 | exact .h12 | exact .h13 | exact .h14) (Message.at_lookups m)⟩, ?_⟩
                    refine ML.look rfl rfl rfl (fun w hw => (by skip; exact opW.moveV (v := v111) rfl ⟨rfl, rfl⟩)) ?_
                    refine ML.look rfl rfl rfl (fun w hw => (by skip; exact opW.fieldAddrB rfl ⟨rfl, rfl⟩)) ?_
                    refine ML.look rfl rfl rfl (fun w hw => (by skip; exact opW.loadV rfl (hw.2) ⟨rfl, rfl⟩)) ?_
                    refine ML.look rfl rfl rfl (fun w hw => (by skip; exact opW.moveI rfl ⟨rfl, rfl⟩)) ?_
                    refine ML.look rfl rfl rfl (fun w hw => (by skip; exact opW.idxV rfl ((hc.l.bel hw.1)) rfl (by omega) ⟨rfl, rfl⟩)) ?_
                    refine ML.look rfl rfl rfl (fun w hw => (by skip; exact opW.fieldAddr rfl ((hc.l.bel hw.1).isP hkl3) ⟨rfl, rfl⟩)) ?_
                    refine ML.look rfl rfl rfl (fun w hw => (by skip; exact opW.loadV rfl (Ld.pt1 ((hc.l.bel hw.1).isPt hkl3) 32 (Lookup.at_writes _)) ⟨rfl, rfl⟩)) ?_
                    refine ML.look rfl rfl rfl (fun w hw => (by skip; exact opW.fieldAddrB rfl ⟨rfl, rfl⟩)) ?_
                    refine ML.look rfl rfl rfl (fun w hw => (by skip; exact opW.loadV rfl (hw.2) ⟨rfl, rfl⟩)) ?_
                    refine ML.look rfl rfl rfl (fun w hw => (by skip; exact opW.moveI rfl ⟨rfl, rfl⟩)) ?_
                    refine ML.look rfl rfl rfl (fun w hw => (by skip; exact opW.idxV rfl ((hc.l.bel hw.1)) rfl (by omega) ⟨rfl, rfl⟩)) ?_
                    refine ML.look rfl rfl rfl (fun w hw => (by skip; exact opW.fieldAddr rfl ((hc.l.bel hw.1).isP hkl3) ⟨rfl, rfl⟩)) ?_
                    refine ML.look rfl rfl rfl (fun w hw => (by skip; exact opW.loadV rfl (Ld.pt1 ((hc.l.bel hw.1).isPt hkl3) 33 (Lookup.at_reads _)) ⟨rfl, rfl⟩)) ?_
                    refine ML.one rfl rfl rfl (opW.call (rlist_ok _ _ _ v111 _ (put4 c k ++ lks[k].table.toList) c.lks[k].2.1 (by omega) (by simp only [List.length_append, Vector.length_toList]; omega) (fun w hw => hla.bel hw.old) hS) rfl ?_)
                    rintro v119 w hS
                    refine ⟨⟨hS.old, hS.ld1 (by first | exact .h0 | exact .h1 | exact .h2 | exact .h3 | exact .h4 | exact .h5 | exact .h6 | exact .h7 | exact .h8 | exact .h9 | exact .h10 | exact .h11 | exact .h12 | exact .h13 | exact .h14) (Message.at_lookups m)⟩, ?_⟩
                    refine ML.one rfl rfl rfl (opW.call (rlist_ok _ _ _ v119 _ (put4 c k ++ lks[k].table.toList ++ listB c.lks[k].2.1) c.lks[k].2.2 (by omega) (by have := listB_len c.lks[k].2.1; simp only [List.length_append, Vector.length_toList]; omega) (fun w hw => hld.bel hw.old) hS) rfl ?_)
                    rintro v126 w hS
                    refine ⟨⟨hS.old, hS.ld1 (by first | exact .h0 | exact .h1 | exact .h2 | exact .h3 | exact .h4 | exact .h5 | exact .h6 | exact .h7 | exact .h8 | exact .h9 | exact .h10 | exact .h11 | exact .h12 | exact .h13 | exact .h14) (Message.at_lookups m)⟩, ?_⟩
                    refine ML.look rfl rfl rfl (fun w hw => (by skip; exact opW.assignV (v := v126) rfl ⟨rfl, rfl⟩)) ?_
                    refine ML.nil ?_
                    replace hS : St w0 [ownE (v126) 5 (put4 c (k + 1)), blkE b1 (Enc.enc m) 31] w := by
                      have e1 : put4 c (k + 1) = put4 c k ++ lks[k].table.toList ++ listB c.lks[k].2.1 ++ (shortB c.lks[k].2.2.length ++ c.lks[k].2.2) := by unfold put4; rw [fm_step _ hkc, hp]; simp only [putL, listB, List.append_assoc]
                      rw [e1]
                      exact hS.sub (by repeat (first | with_reducible exact List.nil_sublist _ | with_reducible exact List.Sublist.refl _ | with_reducible refine List.Sublist.cons₂ _ ?_ | with_reducible refine List.Sublist.cons _ ?_))
                    refine blockQ_n ?_
                    refine thenQ_n (hK28 _ _ ?_)
                    refine WC.region ?_
                    refine WL.op rfl (opW.moveI rfl ?_)
                    refine WL.op rfl (opW.add rfl rfl (wrap_i64 (by omega)) ?_)
                    refine WL.op rfl (opW.assignI rfl ?_)
                    refine WL.nil ?_
                    refine thenQ_n ?_
                    exact ⟨lks.length - (k + 1), by omega, k + 1, _, ⟨rfl, rfl, congrArg (Value.int .i64) (by omega), trivial⟩, hS, by omega, rfl⟩
                  ·
                    have hr5 := hc5
                    try simp only [decide_eq_true_eq, decide_eq_false_iff_not, Bool.and_eq_true, Bool.or_eq_true, Bool.and_eq_false_iff, Bool.or_eq_false_iff, Bool.not_eq_true', Bool.not_eq_false', Int.not_lt, Int.not_le] at hc5
                    obtain rfl : k = lks.length := by omega
                    rw [hkl2] at hS
                    have hF : putF c = put4 c c.lks.length := by unfold putF; rw [hv0]; rfl
                    rw [← hF] at hS
                    refine WC.exit ?_
                    refine thenQ_e ?_
                    refine thenQ_e ?_
                    refine blockQ_hit ?_
                    refine thenQ_n (hK22 _ _ ?_)
                    refine WC.seq (fun K30 hK30 => ?_)
                    refine WC.region ?_
                    refine WL.op rfl (opW.moveV (v := v) rfl ?_)
                    refine WL.op rfl (opW.assignV (v := v) rfl ?_)
                    refine WL.op rfl (opW.assignI rfl ?_)
                    refine WL.nil ?_
                    refine thenQ_n (hK30 _ _ ?_)
                    refine WC.ret ?_
                    refine bodyQ_ret (.tmpV (v := v) rfl (.tmpI rfl .nil)) ?_
                    exact ⟨_, _, rfl, .inr ⟨hmay, hS.own_new (xs := putF c) (by first | exact .h0 | exact .h1 | exact .h2 | exact .h3 | exact .h4 | exact .h5 | exact .h6 | exact .h7 | exact .h8 | exact .h9 | exact .h10 | exact .h11 | exact .h12 | exact .h13 | exact .h14), rfl⟩, hS.old⟩
              ·
                have hr4 := hc4
                try simp only [decide_eq_true_eq, decide_eq_false_iff_not, Bool.and_eq_true, Bool.or_eq_true, Bool.and_eq_false_iff, Bool.or_eq_false_iff, Bool.not_eq_true', Bool.not_eq_false', Int.not_lt, Int.not_le] at hc4
                have hv0 : c.v0 = false := by rw [← hc.v0]; exact hr4
                have hF : putF c = put3 c c.ins.length := by unfold putF; rw [hv0]; rfl
                rw [← hF] at hS
                refine WC.skip ?_
                refine thenQ_n (hK22 _ _ ?_)
                refine WC.seq (fun K31 hK31 => ?_)
                refine WC.region ?_
                refine WL.op rfl (opW.moveV (v := v) rfl ?_)
                refine WL.op rfl (opW.assignV (v := v) rfl ?_)
                refine WL.op rfl (opW.assignI rfl ?_)
                refine WL.nil ?_
                refine thenQ_n (hK31 _ _ ?_)
                refine WC.ret ?_
                refine bodyQ_ret (.tmpV (v := v) rfl (.tmpI rfl .nil)) ?_
                exact ⟨_, _, rfl, .inr ⟨hmay, hS.own_new (xs := putF c) (by first | exact .h0 | exact .h1 | exact .h2 | exact .h3 | exact .h4 | exact .h5 | exact .h6 | exact .h7 | exact .h8 | exact .h9 | exact .h10 | exact .h11 | exact .h12 | exact .h13 | exact .h14), rfl⟩, hS.old⟩

theorem rput_any (w0 : World) (m : Message) (c : MC) (ins : List Instr) (lks : List Lookup) (hc : IsM w0 m c ins lks) (hsz0 : c.size ≤ 100000) : Ret Try.prog 33 #[.agg (Enc.enc m)] w0 (fun u w' => ∃ v, u = .tuple #[v, .int .i64 (putE c)] ∧ New w0 w' v 5 (putL2 c) ∧ Bel w0 w') := by
  refine Ret.mono (rput_ok w0 m c ins lks hc hsz0) ?_
  rintro u w' ⟨v, e, rfl, h, hb⟩
  unfold putE putL2
  rcases h with ⟨h1, rfl, rfl⟩ | ⟨h1, hn, rfl⟩
  · rw [h1]; exact ⟨_, rfl, New.nil _ _ _, hb⟩
  · rw [h1]; exact ⟨_, rfl, hn, hb⟩

set_option maxRecDepth 20000 in
theorem rpput_ok (w0 : World) (t : Tx) (x : TC) (ins : List Instr) (lks : List Lookup) (hx : IsT w0 t x ins lks) (hsg : x.sigs.length ≤ 1500) (hsz : x.m.size ≤ 100000) : Ret Try.prog 12 #[.agg (Enc.enc t)] w0 (fun u w' => ∃ v, u = .tuple #[v, .int .i64 (ptE x)] ∧ New w0 w' v 5 (ptL x) ∧ Bel w0 w') := by
  refine Ret.enter (args := [.agg (Enc.enc t)]) Try.func12 rfl Try.ntmps12 Try.results12 rfl ?_
  have hS := St.start w0
  have hpl := putF_len x.m
  have hptl := ptB_len x
  refine WC.seq (fun K1 hK1 => ?_)
  refine WC.region ?_
  refine WL.op rfl (opW.boxA hS rfl ?_)
  intro b1 w _ hS
  refine WL.op rfl (opW.assignV (v := .slice none 0 0) rfl ?_)
  refine WL.op rfl (opW.assignI rfl ?_)
  refine WL.nil ?_
  refine thenQ_n (hK1 _ _ ?_)
  refine WC.seq (fun K2 hK2 => ?_)
  refine WC.seq (fun K3 hK3 => ?_)
  refine WC.region ?_
  refine WL.op rfl (opW.fieldAddrB rfl ?_)
  refine WL.op rfl (opW.loadV rfl (hS.ld1 (by first | exact .h0 | exact .h1 | exact .h2 | exact .h3 | exact .h4 | exact .h5 | exact .h6 | exact .h7 | exact .h8 | exact .h9 | exact .h10 | exact .h11 | exact .h12 | exact .h13 | exact .h14) (Tx.at_sigs t)) ?_)
  refine WL.op rfl (opW.lenV rfl ((hx.1.bel hS.old)) ?_)
  refine WL.op rfl (opW.gtr rfl rfl ?_)
  refine WL.nil ?_
  refine thenQ_n (hK3 _ _ ?_)
  refine WC.cond _ rfl (fun hc0 => ?_) (fun hc0 => ?_)
  ·
    have hr0 := hc0
    try simp only [decide_eq_true_eq, decide_eq_false_iff_not, Bool.and_eq_true, Bool.or_eq_true, Bool.and_eq_false_iff, Bool.or_eq_false_iff, Bool.not_eq_true', Bool.not_eq_false', Int.not_lt, Int.not_le] at hc0
    simp only [decide_eq_true_eq] at hr0
    omega
  ·
    have hr0 := hc0
    try simp only [decide_eq_true_eq, decide_eq_false_iff_not, Bool.and_eq_true, Bool.or_eq_true, Bool.and_eq_false_iff, Bool.or_eq_false_iff, Bool.not_eq_true', Bool.not_eq_false', Int.not_lt, Int.not_le] at hc0
    refine WC.skip ?_
    refine thenQ_n (hK2 _ _ ?_)
    refine WC.seq (fun K4 hK4 => ?_)
    refine WC.region ?_
    refine WL.op rfl (opW.fieldAddrB rfl ?_)
    refine WL.op rfl (opW.loadV rfl (hS.ldF (by first | exact .h0 | exact .h1 | exact .h2 | exact .h3 | exact .h4 | exact .h5 | exact .h6 | exact .h7 | exact .h8 | exact .h9 | exact .h10 | exact .h11 | exact .h12 | exact .h13 | exact .h14) (Tx.ex_m t) (by rw [Enc.size_eq]; decide)) ?_)
    refine WL.op rfl (opW.call (rput_any _ t.m x.m ins lks (hx.2.bel hS.old) hsz) rfl ?_)
    rintro _ w ⟨v15, rfl, hn15, hw⟩; replace hS := hS.newOwn hw hn15.1 hn15.2
    refine WL.op rfl (opW.moveV (v := .tuple #[v15, .int .i64 (putE x.m)]) rfl ?_)
    refine WL.op rfl (opW.extract rfl rfl ?_)
    refine WL.op rfl (opW.extract rfl rfl ?_)
    refine WL.op rfl (opW.assignV (v := v15) rfl ?_)
    refine WL.op rfl (opW.assignI rfl ?_)
    refine WL.nil ?_
    refine thenQ_n (hK4 _ _ ?_)
    refine WC.seq (fun K5 hK5 => ?_)
    refine WC.seq (fun K6 hK6 => ?_)
    refine WC.region ?_
    refine WL.op rfl (opW.moveI rfl ?_)
    refine WL.op rfl (opW.neq rfl rfl ?_)
    refine WL.nil ?_
    refine thenQ_n (hK6 _ _ ?_)
    refine WC.cond _ rfl (fun hc1 => ?_) (fun hc1 => ?_)
    ·
      have hr1 := hc1
      try simp only [decide_eq_true_eq, decide_eq_false_iff_not, Bool.and_eq_true, Bool.or_eq_true, Bool.and_eq_false_iff, Bool.or_eq_false_iff, Bool.not_eq_true', Bool.not_eq_false', Int.not_lt, Int.not_le] at hc1
      have hm : mayF x.m = false := by
        cases h : mayF x.m with
        | false => rfl
        | true => unfold putE at hr1; rw [if_pos h] at hr1; simp at hr1
      refine WC.seq (fun K7 hK7 => ?_)
      refine WC.region ?_
      refine WL.op rfl (opW.moveI rfl ?_)
      refine WL.op rfl (opW.assignV (v := .slice none 0 0) rfl ?_)
      refine WL.op rfl (opW.assignI rfl ?_)
      refine WL.nil ?_
      refine thenQ_n (hK7 _ _ ?_)
      refine WC.ret ?_
      refine thenQ_r ?_
      refine bodyQ_ret (.tmpV (v := .slice none 0 0) rfl (.tmpI rfl .nil)) ?_
      have hpe : ptE x = 1 := by unfold ptE; rw [hm]; rfl
      have hqe : putE x.m = 1 := by unfold putE; rw [hm]; rfl
      have hpl2 : ptL x = [] := by unfold ptL; rw [hpe]; rfl
      refine ⟨_, congrArg (fun e : Int => Value.tuple #[.slice none 0 0, .int .i64 e]) (hqe.trans hpe.symm), ?_, hS.old⟩
      rw [hpl2]; exact New.nil _ _ _
    ·
      have hr1 := hc1
      try simp only [decide_eq_true_eq, decide_eq_false_iff_not, Bool.and_eq_true, Bool.or_eq_true, Bool.and_eq_false_iff, Bool.or_eq_false_iff, Bool.not_eq_true', Bool.not_eq_false', Int.not_lt, Int.not_le] at hc1
      have hm : mayF x.m = true := by
        cases h : mayF x.m with
        | true => rfl
        | false => unfold putE at hr1; rw [h] at hr1; simp at hr1
      have hpL : putL2 x.m = putF x.m := if_pos hm
      rw [hpL] at hS
      refine WC.skip ?_
      refine thenQ_n (hK5 _ _ ?_)
      refine WC.seq (fun K8 hK8 => ?_)
      refine WC.region ?_
      refine WL.op rfl (opW.fieldAddrB rfl ?_)
      refine WL.op rfl (opW.loadV rfl (hS.ld1 (by first | exact .h0 | exact .h1 | exact .h2 | exact .h3 | exact .h4 | exact .h5 | exact .h6 | exact .h7 | exact .h8 | exact .h9 | exact .h10 | exact .h11 | exact .h12 | exact .h13 | exact .h14) (Tx.at_sigs t)) ?_)
      refine WL.op rfl (opW.lenV rfl ((hx.1.bel hS.old)) ?_)
      refine WL.op rfl (opW.call (rshort_ok _ x.sigs.length (by omega)) rfl ?_)
      rintro v24 w ⟨hn24, hw⟩; replace hS := hS.newOwn hw hn24.1 hn24.2
      have hsb := shortB_le x.sigs.length
      refine WL.op rfl (opW.assignV (v := v24) rfl ?_)
      refine WL.nil ?_
      refine thenQ_n (hK8 _ _ ?_)
      refine WC.seq (fun K9 hK9 => ?_)
      refine WC.seq (fun K10 hK10 => ?_)
      refine WC.region ?_
      refine WL.op rfl (opW.assignI rfl ?_)
      refine WL.nil ?_
      refine thenQ_n (hK10 _ _ ?_)
      refine WC.block ?_
      refine WC.loop (fun q f w => ∃ (k : Nat) (v : Value), Fits [(1, .pointer (some ⟨b1, 0, none⟩)), (4, v15), (6, v), (7, .int .i64 (k : Int))] f ∧ St w0 [ownE v 5 (shortB x.sigs.length ++ sigB (x.sigs.take k)), ownE v15 5 (putF x.m), blkE b1 (Enc.enc t) 33] w ∧ k ≤ x.sigs.length ∧ q = x.sigs.length - k) (x.sigs.length) ?_ ?_
      ·
        refine ⟨0, _, ⟨rfl, rfl, rfl, rfl, trivial⟩, ?_, Nat.zero_le _, rfl⟩
        rw [List.take_zero]
        show St w0 [ownE v24 5 (shortB x.sigs.length ++ []), ownE v15 5 (putF x.m), blkE b1 (Enc.enc t) 33] _
        rw [List.append_nil]
        exact (hS.pick (e := ownE v24 5 (shortB x.sigs.length)) (by first | exact .h0 | exact .h1 | exact .h2 | exact .h3 | exact .h4 | exact .h5 | exact .h6 | exact .h7 | exact .h8 | exact .h9 | exact .h10 | exact .h11 | exact .h12 | exact .h13 | exact .h14)).sub (by repeat (first | with_reducible exact List.nil_sublist _ | with_reducible exact List.Sublist.refl _ | with_reducible refine List.Sublist.cons₂ _ ?_ | with_reducible refine List.Sublist.cons _ ?_))
      ·
        rintro q f w ⟨k, v, hfit, hS, hk0, hm1⟩
        refine WC.fits _ hfit (fun g => ?_)
        clear hfit
        refine WC.seq (fun K11 hK11 => ?_)
        refine WC.seq (fun K12 hK12 => ?_)
        refine WC.region ?_
        refine WL.op rfl (opW.moveI rfl ?_)
        refine WL.op rfl (opW.fieldAddrB rfl ?_)
        refine WL.op rfl (opW.loadV rfl (hS.ld1 (by first | exact .h0 | exact .h1 | exact .h2 | exact .h3 | exact .h4 | exact .h5 | exact .h6 | exact .h7 | exact .h8 | exact .h9 | exact .h10 | exact .h11 | exact .h12 | exact .h13 | exact .h14) (Tx.at_sigs t)) ?_)
        refine WL.op rfl (opW.lenV rfl ((hx.1.bel hS.old)) ?_)
        refine WL.op rfl (opW.lss rfl rfl ?_)
        refine WL.nil ?_
        refine thenQ_n (hK12 _ _ ?_)
        refine WC.cond _ rfl (fun hc2 => ?_) (fun hc2 => ?_)
        ·
          have hr2 := hc2
          try simp only [decide_eq_true_eq, decide_eq_false_iff_not, Bool.and_eq_true, Bool.or_eq_true, Bool.and_eq_false_iff, Bool.or_eq_false_iff, Bool.not_eq_true', Bool.not_eq_false', Int.not_lt, Int.not_le] at hc2
          have hkl : k < x.sigs.length := by omega
          have hslen := sigB_len x.sigs k
          have hmin : min k x.sigs.length = k := by omega
          refine WC.skip ?_
          refine thenQ_n (hK11 _ _ ?_)
          refine WC.seq (fun K13 hK13 => ?_)
          refine WC.block ?_
          refine WC.region ?_
          refine WL.op rfl (opW.moveV (v := v) rfl ?_)
          refine WL.op rfl (opW.fieldAddrB rfl ?_)
          refine WL.op rfl (opW.loadV rfl (hS.ld1 (by first | exact .h0 | exact .h1 | exact .h2 | exact .h3 | exact .h4 | exact .h5 | exact .h6 | exact .h7 | exact .h8 | exact .h9 | exact .h10 | exact .h11 | exact .h12 | exact .h13 | exact .h14) (Tx.at_sigs t)) ?_)
          refine WL.op rfl (opW.moveI rfl ?_)
          refine WL.op rfl (opW.idxV (xs := x.sigs) rfl (hx.1.bel hS.old) rfl (by omega) ?_)
          obtain ⟨bk, ok, hbk⟩ := (hx.1.bel hS.old).isP hkl
          refine WL.op rfl (opW.cutArrO hbk ?_)
          refine WL.op rfl (opW.appendOwn (α := UInt8) (v := v) (xs := (shortB x.sigs.length ++ sigB (x.sigs.take k))) rfl hS rfl (by first | exact .h0 | exact .h1 | exact .h2 | exact .h3 | exact .h4 | exact .h5 | exact .h6 | exact .h7 | exact .h8 | exact .h9 | exact .h10 | exact .h11 | exact .h12 | exact .h13 | exact .h14) (SlR.ofPt (n := 63) (v := x.sigs[k]) (by rw [← hbk]; exact (hx.1.bel hS.old).isPt hkl) (by decide)) (by (try simp only [List.length_append, List.length_cons, List.length_nil, Vector.length_toList]); omega) (by (try simp only [List.length_append, List.length_cons, List.length_nil, Vector.length_toList, maxLen]); omega) ?_)
          intro v38 w hS; replace hS := hS _ (by first | exact .h0 | exact .h1 | exact .h2 | exact .h3 | exact .h4 | exact .h5 | exact .h6 | exact .h7 | exact .h8 | exact .h9 | exact .h10 | exact .h11 | exact .h12 | exact .h13 | exact .h14)
          refine WL.op rfl (opW.assignV (v := v38) rfl ?_)
          refine WL.nil ?_
          refine blockQ_n ?_
          refine thenQ_n (hK13 _ _ ?_)
          refine WC.region ?_
          refine WL.op rfl (opW.moveI rfl ?_)
          refine WL.op rfl (opW.add rfl rfl (wrap_i64 (by omega)) ?_)
          refine WL.op rfl (opW.assignI rfl ?_)
          refine WL.nil ?_
          refine thenQ_n ?_
          rw [List.append_assoc, ← sigB_step hkl] at hS
          exact ⟨x.sigs.length - (k + 1), by omega, k + 1, v38, ⟨rfl, rfl, rfl, congrArg (Value.int .i64) (by omega), trivial⟩, (hS.pick (e := ownE v38 5 (shortB x.sigs.length ++ sigB (x.sigs.take (k + 1)))) (by first | exact .h0 | exact .h1 | exact .h2 | exact .h3 | exact .h4 | exact .h5 | exact .h6 | exact .h7 | exact .h8 | exact .h9 | exact .h10 | exact .h11 | exact .h12 | exact .h13 | exact .h14)).sub (by repeat (first | with_reducible exact List.nil_sublist _ | with_reducible exact List.Sublist.refl _ | with_reducible refine List.Sublist.cons₂ _ ?_ | with_reducible refine List.Sublist.cons _ ?_)), by omega, rfl⟩
        ·
          have hr2 := hc2
          try simp only [decide_eq_true_eq, decide_eq_false_iff_not, Bool.and_eq_true, Bool.or_eq_true, Bool.and_eq_false_iff, Bool.or_eq_false_iff, Bool.not_eq_true', Bool.not_eq_false', Int.not_lt, Int.not_le] at hc2
          obtain rfl : k = x.sigs.length := by omega
          have hslen := sigB_len x.sigs x.sigs.length
          have hmin : min x.sigs.length x.sigs.length = x.sigs.length := by omega
          refine WC.exit ?_
          refine thenQ_e ?_
          refine thenQ_e ?_
          refine blockQ_hit ?_
          refine thenQ_n (hK9 _ _ ?_)
          refine WC.seq (fun K14 hK14 => ?_)
          refine WC.region ?_
          refine WL.op rfl (opW.moveV (v := v) rfl ?_)
          refine WL.op rfl (opW.moveV (v := v15) rfl ?_)
          refine WL.op rfl (opW.appendOwn (α := UInt8) (v := v) (xs := (shortB x.sigs.length ++ sigB (x.sigs.take x.sigs.length))) rfl hS rfl (by first | exact .h0 | exact .h1 | exact .h2 | exact .h3 | exact .h4 | exact .h5 | exact .h6 | exact .h7 | exact .h8 | exact .h9 | exact .h10 | exact .h11 | exact .h12 | exact .h13 | exact .h14) (hS.sl (v := v15) (xs := putF x.m) (by first | exact .h0 | exact .h1 | exact .h2 | exact .h3 | exact .h4 | exact .h5 | exact .h6 | exact .h7 | exact .h8 | exact .h9 | exact .h10 | exact .h11 | exact .h12 | exact .h13 | exact .h14)) (by (try simp only [List.length_append, List.length_cons, List.length_nil, Vector.length_toList]); omega) (by (try simp only [List.length_append, List.length_cons, List.length_nil, Vector.length_toList, maxLen]); omega) ?_)
          intro v41 w hS; replace hS := hS _ (by first | exact .h0 | exact .h1 | exact .h2 | exact .h3 | exact .h4 | exact .h5 | exact .h6 | exact .h7 | exact .h8 | exact .h9 | exact .h10 | exact .h11 | exact .h12 | exact .h13 | exact .h14)
          refine WL.op rfl (opW.assignV (v := v41) rfl ?_)
          have hlim : (ptB x).length = ((shortB x.sigs.length ++ sigB (x.sigs.take x.sigs.length)) ++ putF x.m).length := by unfold ptB; rw [List.take_length]
          replace hS := hS.pick (e := ownE v41 5 ((shortB x.sigs.length ++ sigB (x.sigs.take x.sigs.length)) ++ putF x.m)) (by first | exact .h0 | exact .h1 | exact .h2 | exact .h3 | exact .h4 | exact .h5 | exact .h6 | exact .h7 | exact .h8 | exact .h9 | exact .h10 | exact .h11 | exact .h12 | exact .h13 | exact .h14)
          rw [show (shortB x.sigs.length ++ sigB (x.sigs.take x.sigs.length)) ++ putF x.m = ptB x from by unfold ptB; rw [List.take_length]] at hS hlim
          refine WL.nil ?_
          refine thenQ_n (hK14 _ _ ?_)
          refine WC.seq (fun K15 hK15 => ?_)
          refine WC.seq (fun K16 hK16 => ?_)
          refine WC.region ?_
          refine WL.op rfl (opW.moveV (v := v41) rfl ?_)
          refine WL.op rfl (opW.lenV rfl ((hS.sl (v := v41) (xs := ptB x) (by first | exact .h0 | exact .h1 | exact .h2 | exact .h3 | exact .h4 | exact .h5 | exact .h6 | exact .h7 | exact .h8 | exact .h9 | exact .h10 | exact .h11 | exact .h12 | exact .h13 | exact .h14))) ?_)
          refine WL.op rfl (opW.gtr rfl rfl ?_)
          refine WL.nil ?_
          refine thenQ_n (hK16 _ _ ?_)
          refine WC.cond _ rfl (fun hc3 => ?_) (fun hc3 => ?_)
          ·
            have hr3 := hc3
            try simp only [decide_eq_true_eq, decide_eq_false_iff_not, Bool.and_eq_true, Bool.or_eq_true, Bool.and_eq_false_iff, Bool.or_eq_false_iff, Bool.not_eq_true', Bool.not_eq_false', Int.not_lt, Int.not_le] at hc3
            refine WC.seq (fun K17 hK17 => ?_)
            refine WC.region ?_
            refine WL.op rfl (opW.assignV (v := .slice none 0 0) rfl ?_)
            refine WL.op rfl (opW.assignI rfl ?_)
            refine WL.nil ?_
            refine thenQ_n (hK17 _ _ ?_)
            refine WC.ret ?_
            refine thenQ_r ?_
            refine bodyQ_ret (.tmpV (v := .slice none 0 0) rfl (.tmpI rfl .nil)) ?_
            have hpe : ptE x = 3 := by unfold ptE; rw [if_pos hm, if_pos (by have := hlim; omega)]
            have hpl2 : ptL x = [] := by unfold ptL; rw [hpe]; rfl
            refine ⟨_, congrArg (fun e : Int => Value.tuple #[.slice none 0 0, .int .i64 e]) hpe.symm, ?_, hS.old⟩
            rw [hpl2]; exact New.nil _ _ _
          ·
            have hr3 := hc3
            try simp only [decide_eq_true_eq, decide_eq_false_iff_not, Bool.and_eq_true, Bool.or_eq_true, Bool.and_eq_false_iff, Bool.or_eq_false_iff, Bool.not_eq_true', Bool.not_eq_false', Int.not_lt, Int.not_le] at hc3
            refine WC.skip ?_
            refine thenQ_n (hK15 _ _ ?_)
            refine WC.seq (fun K18 hK18 => ?_)
            refine WC.region ?_
            refine WL.op rfl (opW.moveV (v := v41) rfl ?_)
            refine WL.op rfl (opW.assignV (v := v41) rfl ?_)
            refine WL.op rfl (opW.assignI rfl ?_)
            refine WL.nil ?_
            refine thenQ_n (hK18 _ _ ?_)
            refine WC.ret ?_
            refine bodyQ_ret (.tmpV (v := v41) rfl (.tmpI rfl .nil)) ?_
            have hpe : ptE x = 0 := by unfold ptE; rw [if_pos hm, if_neg (by have := hlim; omega)]
            have hpl2 : ptL x = ptB x := by unfold ptL; rw [if_pos hpe]
            refine ⟨_, congrArg (fun e : Int => Value.tuple #[v41, .int .i64 e]) hpe.symm, ?_, hS.old⟩
            rw [hpl2]; exact hS.own_new (v := v41) (xs := ptB x) (by first | exact .h0 | exact .h1 | exact .h2 | exact .h3 | exact .h4 | exact .h5 | exact .h6 | exact .h7 | exact .h8 | exact .h9 | exact .h10 | exact .h11 | exact .h12 | exact .h13 | exact .h14)

end Go.Fer
