/- the document: Do -/
import Derived.Test.YtcjhdnedbkmgaaaG
set_option linter.all false
namespace Go.Fer
open Go Go.Proofs Go.RowKit

set_option maxHeartbeats 2000000 in
theorem rdo_ok (w0 : World) (vl vr : Value) (ins : Instr) (l : List Account) (r : List Role) (ats dt : List UInt8) (hl : SlR w0 vl l) (hr : SlR w0 vr r) (ha : SlR w0 ins.accounts.v ats) (hd : SlR w0 ins.data.v dt) (hlb : l.length ≤ 100000) (hlw : ∀ y ∈ l, okW y) : Ret Try.prog 13 #[vl, vr, .agg (Enc.enc ins)] w0 (fun u w' => ∃ v, u = .tuple #[v, .int .u64 ((doF l r ats dt).2.1 : Int), .int .i64 (doF l r ats dt).1] ∧ New w0 w' v 48 (doF l r ats dt).2.2 ∧ Bel w0 w') := by
  refine Ret.enter (args := [vl, vr, .agg (Enc.enc ins)]) Try.func13 rfl Try.ntmps13 Try.results13 rfl ?_
  have hS := St.start w0
  refine WC.seq (fun K1 hK1 => ?_)
  refine WC.region ?_
  refine WL.op rfl (opW.boxA hS rfl ?_)
  intro b5 w _ hS
  refine WL.op rfl (opW.assignV (v := .slice none 0 0) rfl ?_)
  refine WL.op rfl (opW.assignI rfl ?_)
  refine WL.op rfl (opW.assignI rfl ?_)
  refine WL.nil ?_
  refine thenQ_n (hK1 _ _ ?_)
  refine WC.seq (fun K2 hK2 => ?_)
  refine WC.seq (fun K3 hK3 => ?_)
  refine WC.region ?_
  refine WL.op rfl (opW.moveV (v := vl) rfl ?_)
  refine WL.op rfl (opW.lenV rfl ((hl.bel hS.old)) ?_)
  refine WL.op rfl (opW.moveV (v := vr) rfl ?_)
  refine WL.op rfl (opW.lenV rfl ((hr.bel hS.old)) ?_)
  refine WL.op rfl (opW.neq rfl rfl ?_)
  refine WL.nil ?_
  refine thenQ_n (hK3 _ _ ?_)
  refine WC.cond _ rfl (fun hc0 => ?_) (fun hc0 => ?_)
  ·
    have hr0 := hc0
    try simp only [decide_eq_true_eq, decide_eq_false_iff_not, Bool.and_eq_true, Bool.or_eq_true, Bool.and_eq_false_iff, Bool.or_eq_false_iff, Bool.not_eq_true', Bool.not_eq_false', Int.not_lt, Int.not_le] at hc0
    refine WC.seq (fun K4 hK4 => ?_)
    refine WC.region ?_
    refine WL.op rfl (opW.assignV (v := .slice none 0 0) rfl ?_)
    refine WL.op rfl (opW.assignI rfl ?_)
    refine WL.op rfl (opW.assignI rfl ?_)
    refine WL.nil ?_
    refine thenQ_n (hK4 _ _ ?_)
    refine WC.ret ?_
    refine thenQ_r ?_
    refine bodyQ_ret (.tmpV (v := .slice none 0 0) rfl (.tmpI rfl (.tmpI rfl .nil))) ?_
    rw [doF_len (by omega)]
    exact ⟨_, rfl, New.nil _ _ _, hS.old⟩
  ·
    have hr0 := hc0
    try simp only [decide_eq_true_eq, decide_eq_false_iff_not, Bool.and_eq_true, Bool.or_eq_true, Bool.and_eq_false_iff, Bool.or_eq_false_iff, Bool.not_eq_true', Bool.not_eq_false', Int.not_lt, Int.not_le] at hc0
    have hlen : l.length = r.length := by omega
    refine WC.skip ?_
    refine thenQ_n (hK2 _ _ ?_)
    refine WC.seq (fun K5 hK5 => ?_)
    refine WC.region ?_
    refine WL.op rfl (opW.fieldAddrB rfl ?_)
    refine WL.op rfl (opW.loadV rfl (hS.ld1 (by first | exact .here | exact .there (.here) | exact .there (.there (.here)) | exact .there (.there (.there (.here))) | exact .there (.there (.there (.there (.here)))) | exact .there (.there (.there (.there (.there (.here))))) | exact .there (.there (.there (.there (.there (.there (.here)))))) | exact .there (.there (.there (.there (.there (.there (.there (.here))))))) | exact .there (.there (.there (.there (.there (.there (.there (.there (.here)))))))) | exact .there (.there (.there (.there (.there (.there (.there (.there (.there (.here))))))))) | exact .there (.there (.there (.there (.there (.there (.there (.there (.there (.there (.here)))))))))) | exact .there (.there (.there (.there (.there (.there (.there (.there (.there (.there (.there (.here))))))))))) | exact .there (.there (.there (.there (.there (.there (.there (.there (.there (.there (.there (.there (.here))))))))))))) (Instr.at_data _)) ?_)
    refine WL.op rfl (opW.call (rdata_ok _ ins.data.v dt (hd.bel hS.old)) rfl ?_)
    rintro _ w ⟨x, bb, rfl, hbb, hask, hw⟩; replace hS := hS.bel hw
    refine WL.op rfl (opW.moveV (v := .tuple #[.agg (Enc.enc (toR x)), .bool bb]) rfl ?_)
    refine WL.op rfl (opW.extract rfl rfl ?_)
    refine WL.op rfl (opW.extract rfl rfl ?_)
    refine WL.op rfl (opW.allocA hS ?_)
    intro b9 w _ hS
    refine WL.op0 (opW.storeE hS rfl rfl (by first | exact .here | exact .there (.here) | exact .there (.there (.here)) | exact .there (.there (.there (.here))) | exact .there (.there (.there (.there (.here)))) | exact .there (.there (.there (.there (.there (.here))))) | exact .there (.there (.there (.there (.there (.there (.here)))))) | exact .there (.there (.there (.there (.there (.there (.there (.here))))))) | exact .there (.there (.there (.there (.there (.there (.there (.there (.here)))))))) | exact .there (.there (.there (.there (.there (.there (.there (.there (.there (.here))))))))) | exact .there (.there (.there (.there (.there (.there (.there (.there (.there (.there (.here)))))))))) | exact .there (.there (.there (.there (.there (.there (.there (.there (.there (.there (.there (.here))))))))))) | exact .there (.there (.there (.there (.there (.there (.there (.there (.there (.there (.there (.there (.here))))))))))))) (by first | rfl | exact Enc.size_eq _) ?_)
    intro w hS; replace hS := hS _ (by first | exact .here | exact .there (.here) | exact .there (.there (.here)) | exact .there (.there (.there (.here))) | exact .there (.there (.there (.there (.here)))) | exact .there (.there (.there (.there (.there (.here))))) | exact .there (.there (.there (.there (.there (.there (.here)))))) | exact .there (.there (.there (.there (.there (.there (.there (.here))))))) | exact .there (.there (.there (.there (.there (.there (.there (.there (.here)))))))) | exact .there (.there (.there (.there (.there (.there (.there (.there (.there (.here))))))))) | exact .there (.there (.there (.there (.there (.there (.there (.there (.there (.there (.here)))))))))) | exact .there (.there (.there (.there (.there (.there (.there (.there (.there (.there (.there (.here))))))))))) | exact .there (.there (.there (.there (.there (.there (.there (.there (.there (.there (.there (.there (.here)))))))))))))
    refine WL.op rfl (opW.assignB rfl ?_)
    refine WL.nil ?_
    refine thenQ_n (hK5 _ _ ?_)
    refine WC.seq (fun K6 hK6 => ?_)
    refine WC.seq (fun K7 hK7 => ?_)
    refine WC.region ?_
    refine WL.op rfl (opW.moveB rfl ?_)
    refine WL.op rfl (opW.not rfl ?_)
    refine WL.nil ?_
    refine thenQ_n (hK7 _ _ ?_)
    refine WC.cond _ rfl (fun hc1 => ?_) (fun hc1 => ?_)
    ·
      have hr1 := hc1
      try simp only [decide_eq_true_eq, decide_eq_false_iff_not, Bool.and_eq_true, Bool.or_eq_true, Bool.and_eq_false_iff, Bool.or_eq_false_iff, Bool.not_eq_true', Bool.not_eq_false', Int.not_lt, Int.not_le] at hc1
      refine WC.seq (fun K8 hK8 => ?_)
      refine WC.region ?_
      refine WL.op rfl (opW.assignV (v := .slice none 0 0) rfl ?_)
      refine WL.op rfl (opW.assignI rfl ?_)
      refine WL.op rfl (opW.assignI rfl ?_)
      refine WL.nil ?_
      refine thenQ_n (hK8 _ _ ?_)
      refine WC.ret ?_
      refine thenQ_r ?_
      refine bodyQ_ret (.tmpV (v := .slice none 0 0) rfl (.tmpI rfl (.tmpI rfl .nil))) ?_
      have hbf : bb = false := by simpa using hr1
      rw [doF_none hlen (by rw [hbf] at hbb; cases h : askF dt with | none => rfl | some y => rw [h] at hbb; cases hbb)]
      exact ⟨_, rfl, New.nil _ _ _, hS.old⟩
    ·
      have hr1 := hc1
      try simp only [decide_eq_true_eq, decide_eq_false_iff_not, Bool.and_eq_true, Bool.or_eq_true, Bool.and_eq_false_iff, Bool.or_eq_false_iff, Bool.not_eq_true', Bool.not_eq_false', Int.not_lt, Int.not_le] at hc1
      have hx := hask (by simpa using hr1)
      obtain ⟨htag, hxc, hxs⟩ := askF_ok hx
      refine WC.skip ?_
      refine thenQ_n (hK6 _ _ ?_)
      refine WC.seq (fun K9 hK9 => ?_)
      refine WC.region ?_
      refine WL.op rfl (opW.loadV rfl (hS.ldA (cs := Enc.enc (toR x)) (by first | exact .here | exact .there (.here) | exact .there (.there (.here)) | exact .there (.there (.there (.here))) | exact .there (.there (.there (.there (.here)))) | exact .there (.there (.there (.there (.there (.here))))) | exact .there (.there (.there (.there (.there (.there (.here)))))) | exact .there (.there (.there (.there (.there (.there (.there (.here))))))) | exact .there (.there (.there (.there (.there (.there (.there (.there (.here)))))))) | exact .there (.there (.there (.there (.there (.there (.there (.there (.there (.here))))))))) | exact .there (.there (.there (.there (.there (.there (.there (.there (.there (.there (.here)))))))))) | exact .there (.there (.there (.there (.there (.there (.there (.there (.there (.there (.there (.here))))))))))) | exact .there (.there (.there (.there (.there (.there (.there (.there (.there (.there (.there (.there (.here))))))))))))) (Enc.size_eq _)) ?_)
      refine WL.op rfl (opW.moveV (v := vr) rfl ?_)
      refine WL.op rfl (opW.loadV rfl (hS.ldA (cs := Enc.enc ins) (by first | exact .here | exact .there (.here) | exact .there (.there (.here)) | exact .there (.there (.there (.here))) | exact .there (.there (.there (.there (.here)))) | exact .there (.there (.there (.there (.there (.here))))) | exact .there (.there (.there (.there (.there (.there (.here)))))) | exact .there (.there (.there (.there (.there (.there (.there (.here))))))) | exact .there (.there (.there (.there (.there (.there (.there (.there (.here)))))))) | exact .there (.there (.there (.there (.there (.there (.there (.there (.there (.here))))))))) | exact .there (.there (.there (.there (.there (.there (.there (.there (.there (.there (.here)))))))))) | exact .there (.there (.there (.there (.there (.there (.there (.there (.there (.there (.there (.here))))))))))) | exact .there (.there (.there (.there (.there (.there (.there (.there (.there (.there (.there (.there (.here))))))))))))) (Enc.size_eq _)) ?_)
      refine WL.op rfl (opW.call (places_ok _ x _ ins r ats (hr.bel hS.old) (ha.bel hS.old)) rfl ?_)
      rintro _ w ⟨pa, pb, rfl, hpl, hw⟩; replace hS := hS.bel hw
      refine WL.op rfl (opW.moveV (v := .tuple #[.int .i64 pa, .int .i64 pb, .int .i64 (takF x.tag r ats)]) rfl ?_)
      refine WL.op rfl (opW.extract rfl rfl ?_)
      refine WL.op rfl (opW.extract rfl rfl ?_)
      refine WL.op rfl (opW.extract rfl rfl ?_)
      refine WL.op rfl (opW.assignI rfl ?_)
      refine WL.op rfl (opW.assignI rfl ?_)
      refine WL.op rfl (opW.assignI rfl ?_)
      refine WL.nil ?_
      refine thenQ_n (hK9 _ _ ?_)
      refine WC.seq (fun K10 hK10 => ?_)
      refine WC.seq (fun K11 hK11 => ?_)
      refine WC.region ?_
      refine WL.op rfl (opW.moveI rfl ?_)
      refine WL.op rfl (opW.neq rfl rfl ?_)
      refine WL.nil ?_
      refine thenQ_n (hK11 _ _ ?_)
      refine WC.cond _ rfl (fun hc2 => ?_) (fun hc2 => ?_)
      ·
        have hr2 := hc2
        try simp only [decide_eq_true_eq, decide_eq_false_iff_not, Bool.and_eq_true, Bool.or_eq_true, Bool.and_eq_false_iff, Bool.or_eq_false_iff, Bool.not_eq_true', Bool.not_eq_false', Int.not_lt, Int.not_le] at hc2
        refine WC.seq (fun K12 hK12 => ?_)
        refine WC.region ?_
        refine WL.op rfl (opW.moveI rfl ?_)
        refine WL.op rfl (opW.assignV (v := .slice none 0 0) rfl ?_)
        refine WL.op rfl (opW.assignI rfl ?_)
        refine WL.op rfl (opW.assignI rfl ?_)
        refine WL.nil ?_
        refine thenQ_n (hK12 _ _ ?_)
        refine WC.ret ?_
        refine thenQ_r ?_
        refine bodyQ_ret (.tmpV (v := .slice none 0 0) rfl (.tmpI rfl (.tmpI rfl .nil))) ?_
        rw [doF_tak hlen hx (by simpa using hr2)]
        exact ⟨_, rfl, New.nil _ _ _, hS.old⟩
      ·
        have hr2 := hc2
        try simp only [decide_eq_true_eq, decide_eq_false_iff_not, Bool.and_eq_true, Bool.or_eq_true, Bool.and_eq_false_iff, Bool.or_eq_false_iff, Bool.not_eq_true', Bool.not_eq_false', Int.not_lt, Int.not_le] at hc2
        have htk : takF x.tag r ats = 0 := by simpa using hr2
        obtain ⟨hnl, hlk⟩ := takF_ok htk
        have hn12 := need_12 x.tag
        obtain ⟨j, hj⟩ : ∃ j, need x.tag - 1 = j := ⟨_, rfl⟩
        have hjl : j < ats.length := by omega
        have h0l : 0 < ats.length := by omega
        have ha0 : ats[0].toNat < l.length := by rw [hlen]; exact lacks_no hlk (List.getElem_mem _)
        have haj : ats[j].toNat < l.length := by rw [hlen]; exact lacks_no hlk (List.getElem_mem _)
        have hact := doF_act hlen hx htk h0l hjl hj ha0 haj
        obtain ⟨hpa, hpb⟩ := hpl htk
        rw [getD_of h0l] at hpa
        rw [hj, getD_of hjl] at hpb
        subst hpa
        subst hpb
        have hA := hlw _ (List.getElem_mem ha0)
        have hB := hlw _ (List.getElem_mem haj)
        have hll := hl.le
        simp only [maxLen] at hll
        refine WC.skip ?_
        refine thenQ_n (hK10 _ _ ?_)
        refine WC.seq (fun K13 hK13 => ?_)
        refine WC.region ?_
        refine WL.op rfl (opW.moveV (v := vl) rfl ?_)
        refine WL.op rfl (opW.appendNil (α := Account) rfl hS rfl ((hl.bel hS.old)) (by omega) (by simp only [maxLen]; omega) ?_)
        intro v40 w hw hS
        refine WL.op rfl (opW.assignV (v := v40) rfl ?_)
        refine WL.nil ?_
        refine thenQ_n (hK13 _ _ ?_)
        refine WC.seq (fun K14 hK14 => ?_)
        refine WC.seq (fun K15 hK15 => ?_)
        refine WC.region ?_
        refine WL.op rfl (opW.fieldAddrB rfl ?_)
        refine WL.op rfl (opW.loadV rfl (hS.ld1 (by first | exact .here | exact .there (.here) | exact .there (.there (.here)) | exact .there (.there (.there (.here))) | exact .there (.there (.there (.there (.here)))) | exact .there (.there (.there (.there (.there (.here))))) | exact .there (.there (.there (.there (.there (.there (.here)))))) | exact .there (.there (.there (.there (.there (.there (.there (.here))))))) | exact .there (.there (.there (.there (.there (.there (.there (.there (.here)))))))) | exact .there (.there (.there (.there (.there (.there (.there (.there (.there (.here))))))))) | exact .there (.there (.there (.there (.there (.there (.there (.there (.there (.there (.here)))))))))) | exact .there (.there (.there (.there (.there (.there (.there (.there (.there (.there (.there (.here))))))))))) | exact .there (.there (.there (.there (.there (.there (.there (.there (.there (.there (.there (.there (.here))))))))))))) (toR_tag x)) ?_)
        refine WL.nil ?_
        refine thenQ_n (hK15 _ _ ?_)
        refine WC.block ?_
        refine WC.seq (fun K16 hK16 => ?_)
        refine WC.region ?_
        refine WL.op rfl (opW.eql rfl rfl ?_)
        refine WL.op rfl (opW.assignB rfl ?_)
        refine WL.nil ?_
        refine thenQ_n (hK16 _ _ ?_)
        refine WC.cond _ rfl (fun hc3 => ?_) (fun hc3 => ?_)
        ·
          have hr3 := hc3
          try simp only [decide_eq_true_eq, decide_eq_false_iff_not, Bool.and_eq_true, Bool.or_eq_true, Bool.and_eq_false_iff, Bool.or_eq_false_iff, Bool.not_eq_true', Bool.not_eq_false', Int.not_lt, Int.not_le] at hc3
          have htg : x.tag = 0 := by omega
          refine WC.seq (fun K17 hK17 => ?_)
          refine WC.seq (fun K18 hK18 => ?_)
          refine WC.region ?_
          refine WL.op rfl (opW.moveV (v := v40) rfl ?_)
          refine WL.op rfl (opW.moveI rfl ?_)
          refine WL.op rfl (opW.idxV rfl ((hS.sl (v := v40) (xs := l) (by first | exact .here | exact .there (.here) | exact .there (.there (.here)) | exact .there (.there (.there (.here))) | exact .there (.there (.there (.there (.here)))) | exact .there (.there (.there (.there (.there (.here))))) | exact .there (.there (.there (.there (.there (.there (.here)))))) | exact .there (.there (.there (.there (.there (.there (.there (.here))))))) | exact .there (.there (.there (.there (.there (.there (.there (.there (.here)))))))) | exact .there (.there (.there (.there (.there (.there (.there (.there (.there (.here))))))))) | exact .there (.there (.there (.there (.there (.there (.there (.there (.there (.there (.here)))))))))) | exact .there (.there (.there (.there (.there (.there (.there (.there (.there (.there (.there (.here))))))))))) | exact .there (.there (.there (.there (.there (.there (.there (.there (.there (.there (.there (.there (.here))))))))))))))) rfl (by omega) ?_)
          refine WL.op rfl (opW.loadV rfl (((hS.sl (v := v40) (xs := l) (by first | exact .here | exact .there (.here) | exact .there (.there (.here)) | exact .there (.there (.there (.here))) | exact .there (.there (.there (.there (.here)))) | exact .there (.there (.there (.there (.there (.here))))) | exact .there (.there (.there (.there (.there (.there (.here)))))) | exact .there (.there (.there (.there (.there (.there (.there (.here))))))) | exact .there (.there (.there (.there (.there (.there (.there (.there (.here)))))))) | exact .there (.there (.there (.there (.there (.there (.there (.there (.there (.here))))))))) | exact .there (.there (.there (.there (.there (.there (.there (.there (.there (.there (.here)))))))))) | exact .there (.there (.there (.there (.there (.there (.there (.there (.there (.there (.there (.here))))))))))) | exact .there (.there (.there (.there (.there (.there (.there (.there (.there (.there (.there (.there (.here)))))))))))))).isPt haj).ldA (Enc.size_eq l[ats[j].toNat])) ?_)
          refine WL.op rfl (opW.buildE (r := ((az : Account) : Account)) (ps := Account.parts ((az : Account) : Account)) (Account.enc_eq _) (by first | (simp only [sysK, az, enc_vset, enc_vz, Account.enc_eq, Account.parts, Role.enc_eq, Role.parts, Instr.enc_eq, Instr.parts, Ask.enc_eq, Ask.parts, Cut.enc_eq, Cut.parts, PairS.enc_eq, PairS.parts, RAsk.enc_eq, RAsk.parts, LAsk.enc_eq, LAsk.parts]; rfl) | rfl) (by (repeat' (first | exact trivial | refine And.intro ?_ ?_)) <;> first | rfl | exact Enc.size_eq _ | (simp; done)) ?_)
          refine WL.op rfl (opW.neqE rfl rfl ?_)
          refine WL.nil ?_
          refine thenQ_n (hK18 _ _ ?_)
          refine WC.cond _ rfl (fun hc4 => ?_) (fun hc4 => ?_)
          ·
            have hr4 := hc4
            try simp only [decide_eq_true_eq, decide_eq_false_iff_not, Bool.and_eq_true, Bool.or_eq_true, Bool.and_eq_false_iff, Bool.or_eq_false_iff, Bool.not_eq_true', Bool.not_eq_false', Int.not_lt, Int.not_le] at hc4
            refine WC.seq (fun K19 hK19 => ?_)
            refine WC.region ?_
            refine WL.op rfl (opW.assignV (v := .slice none 0 0) rfl ?_)
            refine WL.op rfl (opW.assignI rfl ?_)
            refine WL.op rfl (opW.assignI rfl ?_)
            refine WL.nil ?_
            refine thenQ_n (hK19 _ _ ?_)
            refine WC.ret ?_
            refine thenQ_r ?_
            refine blockQ_r ?_
            refine thenQ_r ?_
            refine bodyQ_ret (.tmpV (v := .slice none 0 0) rfl (.tmpI rfl (.tmpI rfl .nil))) ?_
            have he : actE x l[ats[0].toNat] l[ats[j].toNat] (decide (ats[0].toNat = ats[j].toNat)) = 12 := by rw [actE0 htg]; unfold mkE; rw [if_pos hr4]
            rw [hact, if_pos (by rw [he]; decide), he]
            exact ⟨_, rfl, New.nil _ _ _, hS.old⟩
          ·
            have hr4 := hc4
            try simp only [decide_eq_true_eq, decide_eq_false_iff_not, Bool.and_eq_true, Bool.or_eq_true, Bool.and_eq_false_iff, Bool.or_eq_false_iff, Bool.not_eq_true', Bool.not_eq_false', Int.not_lt, Int.not_le] at hc4
            refine WC.skip ?_
            refine thenQ_n (hK17 _ _ ?_)
            refine WC.seq (fun K20 hK20 => ?_)
            refine WC.seq (fun K21 hK21 => ?_)
            refine WC.region ?_
            refine WL.op rfl (opW.moveV (v := v40) rfl ?_)
            refine WL.op rfl (opW.moveI rfl ?_)
            refine WL.op rfl (opW.idxV rfl ((hS.sl (v := v40) (xs := l) (by first | exact .here | exact .there (.here) | exact .there (.there (.here)) | exact .there (.there (.there (.here))) | exact .there (.there (.there (.there (.here)))) | exact .there (.there (.there (.there (.there (.here))))) | exact .there (.there (.there (.there (.there (.there (.here)))))) | exact .there (.there (.there (.there (.there (.there (.there (.here))))))) | exact .there (.there (.there (.there (.there (.there (.there (.there (.here)))))))) | exact .there (.there (.there (.there (.there (.there (.there (.there (.there (.here))))))))) | exact .there (.there (.there (.there (.there (.there (.there (.there (.there (.there (.here)))))))))) | exact .there (.there (.there (.there (.there (.there (.there (.there (.there (.there (.there (.here))))))))))) | exact .there (.there (.there (.there (.there (.there (.there (.there (.there (.there (.there (.there (.here))))))))))))))) rfl (by omega) ?_)
            refine WL.op rfl (opW.loadV rfl (((hS.sl (v := v40) (xs := l) (by first | exact .here | exact .there (.here) | exact .there (.there (.here)) | exact .there (.there (.there (.here))) | exact .there (.there (.there (.there (.here)))) | exact .there (.there (.there (.there (.there (.here))))) | exact .there (.there (.there (.there (.there (.there (.here)))))) | exact .there (.there (.there (.there (.there (.there (.there (.here))))))) | exact .there (.there (.there (.there (.there (.there (.there (.there (.here)))))))) | exact .there (.there (.there (.there (.there (.there (.there (.there (.there (.here))))))))) | exact .there (.there (.there (.there (.there (.there (.there (.there (.there (.there (.here)))))))))) | exact .there (.there (.there (.there (.there (.there (.there (.there (.there (.there (.there (.here))))))))))) | exact .there (.there (.there (.there (.there (.there (.there (.there (.there (.there (.there (.there (.here)))))))))))))).isPt ha0).ldA (Enc.size_eq l[ats[0].toNat])) ?_)
            refine WL.op rfl (opW.call (rplain_ok _ l[ats[0].toNat]) rfl ?_)
            rintro _ w ⟨rfl, hw⟩; replace hS := hS.bel hw
            refine WL.op rfl (opW.not rfl ?_)
            refine WL.nil ?_
            refine thenQ_n (hK21 _ _ ?_)
            refine WC.cond _ rfl (fun hc5 => ?_) (fun hc5 => ?_)
            ·
              have hr5 := hc5
              try simp only [decide_eq_true_eq, decide_eq_false_iff_not, Bool.and_eq_true, Bool.or_eq_true, Bool.and_eq_false_iff, Bool.or_eq_false_iff, Bool.not_eq_true', Bool.not_eq_false', Int.not_lt, Int.not_le] at hc5
              refine WC.seq (fun K22 hK22 => ?_)
              refine WC.region ?_
              refine WL.op rfl (opW.assignV (v := .slice none 0 0) rfl ?_)
              refine WL.op rfl (opW.assignI rfl ?_)
              refine WL.op rfl (opW.assignI rfl ?_)
              refine WL.nil ?_
              refine thenQ_n (hK22 _ _ ?_)
              refine WC.ret ?_
              refine thenQ_r ?_
              refine blockQ_r ?_
              refine thenQ_r ?_
              refine bodyQ_ret (.tmpV (v := .slice none 0 0) rfl (.tmpI rfl (.tmpI rfl .nil))) ?_
              have he : actE x l[ats[0].toNat] l[ats[j].toNat] (decide (ats[0].toNat = ats[j].toNat)) = 16 := by rw [actE0 htg]; unfold mkE; rw [if_neg (by rw [hr4]; decide), if_pos hr5]
              rw [hact, if_pos (by rw [he]; decide), he]
              exact ⟨_, rfl, New.nil _ _ _, hS.old⟩
            ·
              have hr5 := hc5
              try simp only [decide_eq_true_eq, decide_eq_false_iff_not, Bool.and_eq_true, Bool.or_eq_true, Bool.and_eq_false_iff, Bool.or_eq_false_iff, Bool.not_eq_true', Bool.not_eq_false', Int.not_lt, Int.not_le] at hc5
              refine WC.skip ?_
              refine thenQ_n (hK20 _ _ ?_)
              refine WC.seq (fun K23 hK23 => ?_)
              refine WC.seq (fun K24 hK24 => ?_)
              refine WC.region ?_
              refine WL.op rfl (opW.fieldAddrB rfl ?_)
              refine WL.op rfl (opW.loadV rfl (hS.ld1 (by first | exact .here | exact .there (.here) | exact .there (.there (.here)) | exact .there (.there (.there (.here))) | exact .there (.there (.there (.there (.here)))) | exact .there (.there (.there (.there (.there (.here))))) | exact .there (.there (.there (.there (.there (.there (.here)))))) | exact .there (.there (.there (.there (.there (.there (.there (.here))))))) | exact .there (.there (.there (.there (.there (.there (.there (.there (.here)))))))) | exact .there (.there (.there (.there (.there (.there (.there (.there (.there (.here))))))))) | exact .there (.there (.there (.there (.there (.there (.there (.there (.there (.there (.here)))))))))) | exact .there (.there (.there (.there (.there (.there (.there (.there (.there (.there (.there (.here))))))))))) | exact .there (.there (.there (.there (.there (.there (.there (.there (.there (.there (.there (.there (.here))))))))))))) (toR_space x)) ?_)
              refine WL.op rfl (opW.gtr rfl rfl ?_)
              refine WL.nil ?_
              refine thenQ_n (hK24 _ _ ?_)
              refine WC.cond _ rfl (fun hc6 => ?_) (fun hc6 => ?_)
              ·
                have hr6 := hc6
                try simp only [decide_eq_true_eq, decide_eq_false_iff_not, Bool.and_eq_true, Bool.or_eq_true, Bool.and_eq_false_iff, Bool.or_eq_false_iff, Bool.not_eq_true', Bool.not_eq_false', Int.not_lt, Int.not_le] at hc6
                refine WC.seq (fun K25 hK25 => ?_)
                refine WC.region ?_
                refine WL.op rfl (opW.assignV (v := .slice none 0 0) rfl ?_)
                refine WL.op rfl (opW.assignI rfl ?_)
                refine WL.op rfl (opW.assignI rfl ?_)
                refine WL.nil ?_
                refine thenQ_n (hK25 _ _ ?_)
                refine WC.ret ?_
                refine thenQ_r ?_
                refine blockQ_r ?_
                refine thenQ_r ?_
                refine bodyQ_ret (.tmpV (v := .slice none 0 0) rfl (.tmpI rfl (.tmpI rfl .nil))) ?_
                have he : actE x l[ats[0].toNat] l[ats[j].toNat] (decide (ats[0].toNat = ats[j].toNat)) = 3 := by rw [actE0 htg]; unfold mkE; rw [if_neg (by rw [hr4]; decide), if_neg (by rw [hr5]; decide), if_pos hc6]
                rw [hact, if_pos (by rw [he]; decide), he]
                exact ⟨_, rfl, New.nil _ _ _, hS.old⟩
              ·
                have hr6 := hc6
                try simp only [decide_eq_true_eq, decide_eq_false_iff_not, Bool.and_eq_true, Bool.or_eq_true, Bool.and_eq_false_iff, Bool.or_eq_false_iff, Bool.not_eq_true', Bool.not_eq_false', Int.not_lt, Int.not_le] at hc6
                refine WC.skip ?_
                refine thenQ_n (hK23 _ _ ?_)
                refine WC.seq (fun K26 hK26 => ?_)
                refine WC.seq (fun K27 hK27 => ?_)
                refine WC.draw 8 (.look 0 (.look 1 (.look 2 (.look 3 (.look 4 (.look 5 (.look 6 (.look 7 .nil)))))))) (by kernel_rfl) (fun _ _ _ h => h) (fun w1 hw1 => ?_)
                replace hS := hS.bel hw1
                have hS1 := hS
                have hT := St.start w1
                refine ML.look rfl rfl rfl (fun w hw => (by have hS := hS1.bel hw; exact opW.moveV (v := v40) rfl ⟨rfl, rfl⟩)) ?_
                refine ML.look rfl rfl rfl (fun w hw => (by have hS := hS1.bel hw; exact opW.moveI rfl ⟨rfl, rfl⟩)) ?_
                refine ML.look rfl rfl rfl (fun w hw => (by have hS := hS1.bel hw; exact opW.idxV rfl ((hS.sl (v := v40) (xs := l) (by first | exact .here | exact .there (.here) | exact .there (.there (.here)) | exact .there (.there (.there (.here))) | exact .there (.there (.there (.there (.here)))) | exact .there (.there (.there (.there (.there (.here))))) | exact .there (.there (.there (.there (.there (.there (.here)))))) | exact .there (.there (.there (.there (.there (.there (.there (.here))))))) | exact .there (.there (.there (.there (.there (.there (.there (.there (.here)))))))) | exact .there (.there (.there (.there (.there (.there (.there (.there (.there (.here))))))))) | exact .there (.there (.there (.there (.there (.there (.there (.there (.there (.there (.here)))))))))) | exact .there (.there (.there (.there (.there (.there (.there (.there (.there (.there (.there (.here))))))))))) | exact .there (.there (.there (.there (.there (.there (.there (.there (.there (.there (.there (.there (.here))))))))))))))) rfl (by omega) ⟨rfl, rfl⟩)) ?_
                refine ML.look rfl rfl rfl (fun w hw => (by have hS := hS1.bel hw; exact opW.fieldAddr rfl ((hS.sl (v := v40) (xs := l) (by first | exact .here | exact .there (.here) | exact .there (.there (.here)) | exact .there (.there (.there (.here))) | exact .there (.there (.there (.there (.here)))) | exact .there (.there (.there (.there (.there (.here))))) | exact .there (.there (.there (.there (.there (.there (.here)))))) | exact .there (.there (.there (.there (.there (.there (.there (.here))))))) | exact .there (.there (.there (.there (.there (.there (.there (.there (.here)))))))) | exact .there (.there (.there (.there (.there (.there (.there (.there (.there (.here))))))))) | exact .there (.there (.there (.there (.there (.there (.there (.there (.there (.there (.here)))))))))) | exact .there (.there (.there (.there (.there (.there (.there (.there (.there (.there (.there (.here))))))))))) | exact .there (.there (.there (.there (.there (.there (.there (.there (.there (.there (.there (.there (.here)))))))))))))).isP ha0) ⟨rfl, rfl⟩)) ?_
                refine ML.look rfl rfl rfl (fun w hw => (by have hS := hS1.bel hw; exact opW.loadV rfl (Ld.pt1 ((hS.sl (v := v40) (xs := l) (by first | exact .here | exact .there (.here) | exact .there (.there (.here)) | exact .there (.there (.there (.here))) | exact .there (.there (.there (.there (.here)))) | exact .there (.there (.there (.there (.there (.here))))) | exact .there (.there (.there (.there (.there (.there (.here)))))) | exact .there (.there (.there (.there (.there (.there (.there (.here))))))) | exact .there (.there (.there (.there (.there (.there (.there (.there (.here)))))))) | exact .there (.there (.there (.there (.there (.there (.there (.there (.there (.here))))))))) | exact .there (.there (.there (.there (.there (.there (.there (.there (.there (.there (.here)))))))))) | exact .there (.there (.there (.there (.there (.there (.there (.there (.there (.there (.there (.here))))))))))) | exact .there (.there (.there (.there (.there (.there (.there (.there (.there (.there (.there (.there (.here)))))))))))))).isPt ha0) 0 (Account.at_coins _)) ⟨rfl, rfl⟩)) ?_
                refine ML.look rfl rfl rfl (fun w hw => (by have hS := hS1.bel hw; exact opW.fieldAddrB rfl ⟨rfl, rfl⟩)) ?_
                refine ML.look rfl rfl rfl (fun w hw => (by have hS := hS1.bel hw; exact opW.loadV rfl (hS.ld1 (by first | exact .here | exact .there (.here) | exact .there (.there (.here)) | exact .there (.there (.there (.here))) | exact .there (.there (.there (.there (.here)))) | exact .there (.there (.there (.there (.there (.here))))) | exact .there (.there (.there (.there (.there (.there (.here)))))) | exact .there (.there (.there (.there (.there (.there (.there (.here))))))) | exact .there (.there (.there (.there (.there (.there (.there (.there (.here)))))))) | exact .there (.there (.there (.there (.there (.there (.there (.there (.there (.here))))))))) | exact .there (.there (.there (.there (.there (.there (.there (.there (.there (.there (.here)))))))))) | exact .there (.there (.there (.there (.there (.there (.there (.there (.there (.there (.there (.here))))))))))) | exact .there (.there (.there (.there (.there (.there (.there (.there (.there (.there (.there (.there (.here))))))))))))) (toR_coins x)) ⟨rfl, rfl⟩)) ?_
                refine ML.look rfl rfl rfl (fun w hw => (by have hS := hS1.bel hw; exact opW.lss rfl rfl ⟨rfl, rfl⟩)) ?_
                refine ML.nil ?_
                refine thenQ_n (hK27 _ _ ?_)
                refine WC.cond _ rfl (fun hc7 => ?_) (fun hc7 => ?_)
                ·
                  have hr7 := hc7
                  try simp only [decide_eq_true_eq, decide_eq_false_iff_not, Bool.and_eq_true, Bool.or_eq_true, Bool.and_eq_false_iff, Bool.or_eq_false_iff, Bool.not_eq_true', Bool.not_eq_false', Int.not_lt, Int.not_le] at hc7
                  refine WC.seq (fun K28 hK28 => ?_)
                  refine WC.region ?_
                  refine WL.op rfl (opW.assignV (v := .slice none 0 0) rfl ?_)
                  refine WL.op rfl (opW.assignI rfl ?_)
                  refine WL.op rfl (opW.assignI rfl ?_)
                  refine WL.nil ?_
                  refine thenQ_n (hK28 _ _ ?_)
                  refine WC.ret ?_
                  refine thenQ_r ?_
                  refine blockQ_r ?_
                  refine thenQ_r ?_
                  refine bodyQ_ret (.tmpV (v := .slice none 0 0) rfl (.tmpI rfl (.tmpI rfl .nil))) ?_
                  have he : actE x l[ats[0].toNat] l[ats[j].toNat] (decide (ats[0].toNat = ats[j].toNat)) = 17 := by rw [actE0 htg]; unfold mkE; rw [if_neg (by rw [hr4]; decide), if_neg (by rw [hr5]; decide), if_neg (by omega), if_pos hc7]
                  rw [hact, if_pos (by rw [he]; decide), he]
                  exact ⟨_, rfl, New.nil _ _ _, hS.old⟩
                ·
                  have hr7 := hc7
                  try simp only [decide_eq_true_eq, decide_eq_false_iff_not, Bool.and_eq_true, Bool.or_eq_true, Bool.and_eq_false_iff, Bool.or_eq_false_iff, Bool.not_eq_true', Bool.not_eq_false', Int.not_lt, Int.not_le] at hc7
                  refine WC.skip ?_
                  refine thenQ_n (hK26 _ _ ?_)
                  refine WC.seq (fun K29 hK29 => ?_)
                  refine WC.draw 12 (.look 0 (.look 1 (.look 2 (.look 3 (.look 4 (.look 5 (.look 6 (.look 7 (.look 8 (.look 9 (.look 10 (.look 11 (.one 12 .nil))))))))))))) (by kernel_rfl) (fun _ _ _ h => h) (fun w1 hw1 => ?_)
                  replace hS := hS.bel hw1
                  have hS1 := hS
                  have hT := St.start w1
                  refine ML.look rfl rfl rfl (fun w hw => (by have hS := hS1.bel hw; exact opW.moveV (v := v40) rfl ⟨rfl, rfl⟩)) ?_
                  refine ML.look rfl rfl rfl (fun w hw => (by have hS := hS1.bel hw; exact opW.moveI rfl ⟨rfl, rfl⟩)) ?_
                  refine ML.look rfl rfl rfl (fun w hw => (by have hS := hS1.bel hw; exact opW.moveV (v := v40) rfl ⟨rfl, rfl⟩)) ?_
                  refine ML.look rfl rfl rfl (fun w hw => (by have hS := hS1.bel hw; exact opW.moveI rfl ⟨rfl, rfl⟩)) ?_
                  refine ML.look rfl rfl rfl (fun w hw => (by have hS := hS1.bel hw; exact opW.idxV rfl ((hS.sl (v := v40) (xs := l) (by first | exact .here | exact .there (.here) | exact .there (.there (.here)) | exact .there (.there (.there (.here))) | exact .there (.there (.there (.there (.here)))) | exact .there (.there (.there (.there (.there (.here))))) | exact .there (.there (.there (.there (.there (.there (.here)))))) | exact .there (.there (.there (.there (.there (.there (.there (.here))))))) | exact .there (.there (.there (.there (.there (.there (.there (.there (.here)))))))) | exact .there (.there (.there (.there (.there (.there (.there (.there (.there (.here))))))))) | exact .there (.there (.there (.there (.there (.there (.there (.there (.there (.there (.here)))))))))) | exact .there (.there (.there (.there (.there (.there (.there (.there (.there (.there (.there (.here))))))))))) | exact .there (.there (.there (.there (.there (.there (.there (.there (.there (.there (.there (.there (.here))))))))))))))) rfl (by omega) ⟨rfl, rfl⟩)) ?_
                  refine ML.look rfl rfl rfl (fun w hw => (by have hS := hS1.bel hw; exact opW.fieldAddr rfl ((hS.sl (v := v40) (xs := l) (by first | exact .here | exact .there (.here) | exact .there (.there (.here)) | exact .there (.there (.there (.here))) | exact .there (.there (.there (.there (.here)))) | exact .there (.there (.there (.there (.there (.here))))) | exact .there (.there (.there (.there (.there (.there (.here)))))) | exact .there (.there (.there (.there (.there (.there (.there (.here))))))) | exact .there (.there (.there (.there (.there (.there (.there (.there (.here)))))))) | exact .there (.there (.there (.there (.there (.there (.there (.there (.there (.here))))))))) | exact .there (.there (.there (.there (.there (.there (.there (.there (.there (.there (.here)))))))))) | exact .there (.there (.there (.there (.there (.there (.there (.there (.there (.there (.there (.here))))))))))) | exact .there (.there (.there (.there (.there (.there (.there (.there (.there (.there (.there (.there (.here)))))))))))))).isP ha0) ⟨rfl, rfl⟩)) ?_
                  refine ML.look rfl rfl rfl (fun w hw => (by have hS := hS1.bel hw; exact opW.loadV rfl (Ld.pt1 ((hS.sl (v := v40) (xs := l) (by first | exact .here | exact .there (.here) | exact .there (.there (.here)) | exact .there (.there (.there (.here))) | exact .there (.there (.there (.there (.here)))) | exact .there (.there (.there (.there (.there (.here))))) | exact .there (.there (.there (.there (.there (.there (.here)))))) | exact .there (.there (.there (.there (.there (.there (.there (.here))))))) | exact .there (.there (.there (.there (.there (.there (.there (.there (.here)))))))) | exact .there (.there (.there (.there (.there (.there (.there (.there (.there (.here))))))))) | exact .there (.there (.there (.there (.there (.there (.there (.there (.there (.there (.here)))))))))) | exact .there (.there (.there (.there (.there (.there (.there (.there (.there (.there (.there (.here))))))))))) | exact .there (.there (.there (.there (.there (.there (.there (.there (.there (.there (.there (.there (.here)))))))))))))).isPt ha0) 0 (Account.at_coins _)) ⟨rfl, rfl⟩)) ?_
                  refine ML.look rfl rfl rfl (fun w hw => (by have hS := hS1.bel hw; exact opW.fieldAddrB rfl ⟨rfl, rfl⟩)) ?_
                  refine ML.look rfl rfl rfl (fun w hw => (by have hS := hS1.bel hw; exact opW.loadV rfl (hS.ld1 (by first | exact .here | exact .there (.here) | exact .there (.there (.here)) | exact .there (.there (.there (.here))) | exact .there (.there (.there (.there (.here)))) | exact .there (.there (.there (.there (.there (.here))))) | exact .there (.there (.there (.there (.there (.there (.here)))))) | exact .there (.there (.there (.there (.there (.there (.there (.here))))))) | exact .there (.there (.there (.there (.there (.there (.there (.there (.here)))))))) | exact .there (.there (.there (.there (.there (.there (.there (.there (.there (.here))))))))) | exact .there (.there (.there (.there (.there (.there (.there (.there (.there (.there (.here)))))))))) | exact .there (.there (.there (.there (.there (.there (.there (.there (.there (.there (.there (.here))))))))))) | exact .there (.there (.there (.there (.there (.there (.there (.there (.there (.there (.there (.there (.here))))))))))))) (toR_coins x)) ⟨rfl, rfl⟩)) ?_
                  refine ML.look rfl rfl rfl (fun w hw => (by have hS := hS1.bel hw; exact opW.sub rfl rfl (nsub (by omega) hA.1) ⟨rfl, rfl⟩)) ?_
                  refine ML.look rfl rfl rfl (fun w hw => (by have hS := hS1.bel hw; exact opW.idxV rfl ((hS.sl (v := v40) (xs := l) (by first | exact .here | exact .there (.here) | exact .there (.there (.here)) | exact .there (.there (.there (.here))) | exact .there (.there (.there (.there (.here)))) | exact .there (.there (.there (.there (.there (.here))))) | exact .there (.there (.there (.there (.there (.there (.here)))))) | exact .there (.there (.there (.there (.there (.there (.there (.here))))))) | exact .there (.there (.there (.there (.there (.there (.there (.there (.here)))))))) | exact .there (.there (.there (.there (.there (.there (.there (.there (.there (.here))))))))) | exact .there (.there (.there (.there (.there (.there (.there (.there (.there (.there (.here)))))))))) | exact .there (.there (.there (.there (.there (.there (.there (.there (.there (.there (.there (.here))))))))))) | exact .there (.there (.there (.there (.there (.there (.there (.there (.there (.there (.there (.there (.here))))))))))))))) rfl (by omega) ⟨rfl, rfl⟩)) ?_
                  refine ML.look rfl rfl rfl (fun w hw => (by have hS := hS1.bel hw; exact opW.fieldAddr rfl ((hS.sl (v := v40) (xs := l) (by first | exact .here | exact .there (.here) | exact .there (.there (.here)) | exact .there (.there (.there (.here))) | exact .there (.there (.there (.there (.here)))) | exact .there (.there (.there (.there (.there (.here))))) | exact .there (.there (.there (.there (.there (.there (.here)))))) | exact .there (.there (.there (.there (.there (.there (.there (.here))))))) | exact .there (.there (.there (.there (.there (.there (.there (.there (.here)))))))) | exact .there (.there (.there (.there (.there (.there (.there (.there (.there (.here))))))))) | exact .there (.there (.there (.there (.there (.there (.there (.there (.there (.there (.here)))))))))) | exact .there (.there (.there (.there (.there (.there (.there (.there (.there (.there (.there (.here))))))))))) | exact .there (.there (.there (.there (.there (.there (.there (.there (.there (.there (.there (.there (.here)))))))))))))).isP ha0) ⟨rfl, rfl⟩)) ?_
                  refine ML.put0 rfl rfl rfl (opW.storeOwn (v := v40) (u := .int .u64 ((l[ats[0].toNat].coins - x.coins : Nat) : Int)) (sz := 1) (xs := l) (i := ats[0].toNat) (off := 0) (y' := { l[ats[0].toNat] with coins := l[ats[0].toNat].coins - x.coins }) hS (by first | exact .here | exact .there (.here) | exact .there (.there (.here)) | exact .there (.there (.there (.here))) | exact .there (.there (.there (.there (.here)))) | exact .there (.there (.there (.there (.there (.here))))) | exact .there (.there (.there (.there (.there (.there (.here)))))) | exact .there (.there (.there (.there (.there (.there (.there (.here))))))) | exact .there (.there (.there (.there (.there (.there (.there (.there (.here)))))))) | exact .there (.there (.there (.there (.there (.there (.there (.there (.there (.here))))))))) | exact .there (.there (.there (.there (.there (.there (.there (.there (.there (.there (.here)))))))))) | exact .there (.there (.there (.there (.there (.there (.there (.there (.there (.there (.there (.here))))))))))) | exact .there (.there (.there (.there (.there (.there (.there (.there (.there (.there (.there (.there (.here))))))))))))) ha0 rfl rfl rfl (by decide) (one_int _ _) (Account.set_coins l[ats[0].toNat] (l[ats[0].toNat].coins - x.coins)) ?_)
                  intro w hS; replace hS := hS _ (by first | exact .here | exact .there (.here) | exact .there (.there (.here)) | exact .there (.there (.there (.here))) | exact .there (.there (.there (.there (.here)))) | exact .there (.there (.there (.there (.there (.here))))) | exact .there (.there (.there (.there (.there (.there (.here)))))) | exact .there (.there (.there (.there (.there (.there (.there (.here))))))) | exact .there (.there (.there (.there (.there (.there (.there (.there (.here)))))))) | exact .there (.there (.there (.there (.there (.there (.there (.there (.there (.here))))))))) | exact .there (.there (.there (.there (.there (.there (.there (.there (.there (.there (.here)))))))))) | exact .there (.there (.there (.there (.there (.there (.there (.there (.there (.there (.there (.here))))))))))) | exact .there (.there (.there (.there (.there (.there (.there (.there (.there (.there (.there (.there (.here)))))))))))))
                  refine ML.nil ?_
                  refine thenQ_n (hK29 _ _ ?_)
                  refine WC.region ?_
                  have haj2 : ats[j].toNat < (l.set ats[0].toNat { l[ats[0].toNat] with coins := l[ats[0].toNat].coins - x.coins }).length := by simpa using haj
                  refine WL.op rfl (opW.moveV (v := v40) rfl ?_)
                  refine WL.op rfl (opW.moveI rfl ?_)
                  refine WL.op rfl (opW.fieldAddrB rfl ?_)
                  refine WL.op rfl (opW.loadV rfl (hS.ld1 (by first | exact .here | exact .there (.here) | exact .there (.there (.here)) | exact .there (.there (.there (.here))) | exact .there (.there (.there (.there (.here)))) | exact .there (.there (.there (.there (.there (.here))))) | exact .there (.there (.there (.there (.there (.there (.here)))))) | exact .there (.there (.there (.there (.there (.there (.there (.here))))))) | exact .there (.there (.there (.there (.there (.there (.there (.there (.here)))))))) | exact .there (.there (.there (.there (.there (.there (.there (.there (.there (.here))))))))) | exact .there (.there (.there (.there (.there (.there (.there (.there (.there (.there (.here)))))))))) | exact .there (.there (.there (.there (.there (.there (.there (.there (.there (.there (.there (.here))))))))))) | exact .there (.there (.there (.there (.there (.there (.there (.there (.there (.there (.there (.there (.here))))))))))))) (toR_coins x)) ?_)
                  refine WL.op rfl (opW.fieldAddrB rfl ?_)
                  refine WL.op rfl (opW.loadV rfl (hS.ldF (cs := Enc.enc (toR x)) (o := 3) (by first | exact .here | exact .there (.here) | exact .there (.there (.here)) | exact .there (.there (.there (.here))) | exact .there (.there (.there (.there (.here)))) | exact .there (.there (.there (.there (.there (.here))))) | exact .there (.there (.there (.there (.there (.there (.here)))))) | exact .there (.there (.there (.there (.there (.there (.there (.here))))))) | exact .there (.there (.there (.there (.there (.there (.there (.there (.here)))))))) | exact .there (.there (.there (.there (.there (.there (.there (.there (.there (.here))))))))) | exact .there (.there (.there (.there (.there (.there (.there (.there (.there (.there (.here)))))))))) | exact .there (.there (.there (.there (.there (.there (.there (.there (.there (.there (.there (.here))))))))))) | exact .there (.there (.there (.there (.there (.there (.there (.there (.there (.there (.there (.there (.here))))))))))))) (toR_owner x) (by rw [Enc.size_eq]; decide)) ?_)
                  refine WL.op rfl (opW.fieldAddrB rfl ?_)
                  refine WL.op rfl (opW.loadV rfl (hS.ld1 (by first | exact .here | exact .there (.here) | exact .there (.there (.here)) | exact .there (.there (.there (.here))) | exact .there (.there (.there (.there (.here)))) | exact .there (.there (.there (.there (.there (.here))))) | exact .there (.there (.there (.there (.there (.there (.here)))))) | exact .there (.there (.there (.there (.there (.there (.there (.here))))))) | exact .there (.there (.there (.there (.there (.there (.there (.there (.here)))))))) | exact .there (.there (.there (.there (.there (.there (.there (.there (.there (.here))))))))) | exact .there (.there (.there (.there (.there (.there (.there (.there (.there (.there (.here)))))))))) | exact .there (.there (.there (.there (.there (.there (.there (.there (.there (.there (.there (.here))))))))))) | exact .there (.there (.there (.there (.there (.there (.there (.there (.there (.there (.there (.there (.here))))))))))))) (toR_space x)) ?_)
                  refine WL.op rfl (opW.buildE (r := ((⟨x.coins, x.owner, x.space⟩ : Account) : Account)) (ps := Account.parts ((⟨x.coins, x.owner, x.space⟩ : Account) : Account)) (Account.enc_eq _) (by first | (simp only [sysK, az, enc_vset, enc_vz, Account.enc_eq, Account.parts, Role.enc_eq, Role.parts, Instr.enc_eq, Instr.parts, Ask.enc_eq, Ask.parts, Cut.enc_eq, Cut.parts, PairS.enc_eq, PairS.parts, RAsk.enc_eq, RAsk.parts, LAsk.enc_eq, LAsk.parts]; rfl) | rfl) (by (repeat' (first | exact trivial | refine And.intro ?_ ?_)) <;> first | rfl | exact Enc.size_eq _ | (simp; done)) ?_)
                  refine WL.op rfl (opW.idxV rfl ((hS.sl (v := v40) (xs := (l.set ats[0].toNat { l[ats[0].toNat] with coins := l[ats[0].toNat].coins - x.coins })) (by first | exact .here | exact .there (.here) | exact .there (.there (.here)) | exact .there (.there (.there (.here))) | exact .there (.there (.there (.there (.here)))) | exact .there (.there (.there (.there (.there (.here))))) | exact .there (.there (.there (.there (.there (.there (.here)))))) | exact .there (.there (.there (.there (.there (.there (.there (.here))))))) | exact .there (.there (.there (.there (.there (.there (.there (.there (.here)))))))) | exact .there (.there (.there (.there (.there (.there (.there (.there (.there (.here))))))))) | exact .there (.there (.there (.there (.there (.there (.there (.there (.there (.there (.here)))))))))) | exact .there (.there (.there (.there (.there (.there (.there (.there (.there (.there (.there (.here))))))))))) | exact .there (.there (.there (.there (.there (.there (.there (.there (.there (.there (.there (.there (.here))))))))))))))) rfl (by omega) ?_)
                  refine WL.op0 (opW.storeOwn (v := v40) (u := .agg (Enc.enc (⟨x.coins, x.owner, x.space⟩ : Account))) (sz := 34) (xs := (l.set ats[0].toNat { l[ats[0].toNat] with coins := l[ats[0].toNat].coins - x.coins })) (i := ats[j].toNat) (off := 0) (y' := ⟨x.coins, x.owner, x.space⟩) hS (by first | exact .here | exact .there (.here) | exact .there (.there (.here)) | exact .there (.there (.there (.here))) | exact .there (.there (.there (.there (.here)))) | exact .there (.there (.there (.there (.there (.here))))) | exact .there (.there (.there (.there (.there (.there (.here)))))) | exact .there (.there (.there (.there (.there (.there (.there (.here))))))) | exact .there (.there (.there (.there (.there (.there (.there (.there (.here)))))))) | exact .there (.there (.there (.there (.there (.there (.there (.there (.there (.here))))))))) | exact .there (.there (.there (.there (.there (.there (.there (.there (.there (.there (.here)))))))))) | exact .there (.there (.there (.there (.there (.there (.there (.there (.there (.there (.there (.here))))))))))) | exact .there (.there (.there (.there (.there (.there (.there (.there (.there (.there (.there (.there (.here))))))))))))) haj2 (ptrAdd0 v40 ats[j].toNat (Enc.sz Account)).symm rfl (Enc.size_eq (α := Account) _) (by decide) (Enc.one (α := Account) _) (spl_all (by rw [show Value.cells (.agg (Enc.enc (⟨x.coins, x.owner, x.space⟩ : Account))) = Enc.enc (⟨x.coins, x.owner, x.space⟩ : Account) from rfl, Enc.size_eq, Enc.size_eq])) ?_)
                  intro w hS; replace hS := hS _ (by first | exact .here | exact .there (.here) | exact .there (.there (.here)) | exact .there (.there (.there (.here))) | exact .there (.there (.there (.there (.here)))) | exact .there (.there (.there (.there (.there (.here))))) | exact .there (.there (.there (.there (.there (.there (.here)))))) | exact .there (.there (.there (.there (.there (.there (.there (.here))))))) | exact .there (.there (.there (.there (.there (.there (.there (.there (.here)))))))) | exact .there (.there (.there (.there (.there (.there (.there (.there (.there (.here))))))))) | exact .there (.there (.there (.there (.there (.there (.there (.there (.there (.there (.here)))))))))) | exact .there (.there (.there (.there (.there (.there (.there (.there (.there (.there (.there (.here))))))))))) | exact .there (.there (.there (.there (.there (.there (.there (.there (.there (.there (.there (.there (.here)))))))))))))
                  refine WL.nil ?_
                  refine blockQ_n ?_
                  refine thenQ_n (hK14 _ _ ?_)
                  refine WC.seq (fun K30 hK30 => ?_)
                  refine WC.draw 6 (.look 0 (.look 1 (.look 2 (.look 3 (.look 4 (.look 5 .nil)))))) (by kernel_rfl) (fun _ _ _ h => h) (fun w1 hw1 => ?_)
                  replace hS := hS.bel hw1
                  have hS1 := hS
                  have hT := St.start w1
                  refine ML.look rfl rfl rfl (fun w hw => (by have hS := hS1.bel hw; exact opW.moveV (v := v40) rfl ⟨rfl, rfl⟩)) ?_
                  refine ML.look rfl rfl rfl (fun w hw => (by have hS := hS1.bel hw; exact opW.fieldAddrB rfl ⟨rfl, rfl⟩)) ?_
                  refine ML.look rfl rfl rfl (fun w hw => (by have hS := hS1.bel hw; exact opW.loadV rfl (hS.ld1 (by first | exact .here | exact .there (.here) | exact .there (.there (.here)) | exact .there (.there (.there (.here))) | exact .there (.there (.there (.there (.here)))) | exact .there (.there (.there (.there (.there (.here))))) | exact .there (.there (.there (.there (.there (.there (.here)))))) | exact .there (.there (.there (.there (.there (.there (.there (.here))))))) | exact .there (.there (.there (.there (.there (.there (.there (.there (.here)))))))) | exact .there (.there (.there (.there (.there (.there (.there (.there (.there (.here))))))))) | exact .there (.there (.there (.there (.there (.there (.there (.there (.there (.there (.here)))))))))) | exact .there (.there (.there (.there (.there (.there (.there (.there (.there (.there (.there (.here))))))))))) | exact .there (.there (.there (.there (.there (.there (.there (.there (.there (.there (.there (.there (.here))))))))))))) (toR_space x)) ⟨rfl, rfl⟩)) ?_
                  refine ML.look rfl rfl rfl (fun w hw => (by have hS := hS1.bel hw; exact opW.assignV (v := v40) rfl ⟨rfl, rfl⟩)) ?_
                  refine ML.look rfl rfl rfl (fun w hw => (by have hS := hS1.bel hw; exact opW.assignI rfl ⟨rfl, rfl⟩)) ?_
                  refine ML.look rfl rfl rfl (fun w hw => (by have hS := hS1.bel hw; exact opW.assignI rfl ⟨rfl, rfl⟩)) ?_
                  refine ML.nil ?_
                  refine thenQ_n (hK30 _ _ ?_)
                  refine WC.ret ?_
                  refine bodyQ_ret (.tmpV (v := v40) rfl (.tmpI rfl (.tmpI rfl .nil))) ?_
                  have he : actE x l[ats[0].toNat] l[ats[j].toNat] (decide (ats[0].toNat = ats[j].toNat)) = 0 := by rw [actE0 htg]; unfold mkE; rw [if_neg (by rw [hr4]; decide), if_neg (by rw [hr5]; decide), if_neg (by omega), if_neg (by omega)]
                  rw [hact, if_neg (fun e => e he), actL0 htg]
                  exact ⟨_, rfl, hS.own_new (by first | exact .here | exact .there (.here) | exact .there (.there (.here)) | exact .there (.there (.there (.here))) | exact .there (.there (.there (.there (.here)))) | exact .there (.there (.there (.there (.there (.here))))) | exact .there (.there (.there (.there (.there (.there (.here)))))) | exact .there (.there (.there (.there (.there (.there (.there (.here))))))) | exact .there (.there (.there (.there (.there (.there (.there (.there (.here)))))))) | exact .there (.there (.there (.there (.there (.there (.there (.there (.there (.here))))))))) | exact .there (.there (.there (.there (.there (.there (.there (.there (.there (.there (.here)))))))))) | exact .there (.there (.there (.there (.there (.there (.there (.there (.there (.there (.there (.here))))))))))) | exact .there (.there (.there (.there (.there (.there (.there (.there (.there (.there (.there (.there (.here))))))))))))), hS.old⟩
        ·
          have hr3 := hc3
          try simp only [decide_eq_true_eq, decide_eq_false_iff_not, Bool.and_eq_true, Bool.or_eq_true, Bool.and_eq_false_iff, Bool.or_eq_false_iff, Bool.not_eq_true', Bool.not_eq_false', Int.not_lt, Int.not_le] at hc3
          refine WC.seq (fun K31 hK31 => ?_)
          refine WC.region ?_
          refine WL.op rfl (opW.eql rfl rfl ?_)
          refine WL.op rfl (opW.assignB rfl ?_)
          refine WL.nil ?_
          refine thenQ_n (hK31 _ _ ?_)
          refine WC.cond _ rfl (fun hc8 => ?_) (fun hc8 => ?_)
          ·
            have hr8 := hc8
            try simp only [decide_eq_true_eq, decide_eq_false_iff_not, Bool.and_eq_true, Bool.or_eq_true, Bool.and_eq_false_iff, Bool.or_eq_false_iff, Bool.not_eq_true', Bool.not_eq_false', Int.not_lt, Int.not_le] at hc8
            have htg : x.tag = 1 := by omega
            refine WC.seq (fun K32 hK32 => ?_)
            refine WC.seq (fun K33 hK33 => ?_)
            refine WC.region ?_
            refine WL.op rfl (opW.moveV (v := v40) rfl ?_)
            refine WL.op rfl (opW.moveI rfl ?_)
            refine WL.op rfl (opW.idxV rfl ((hS.sl (v := v40) (xs := l) (by first | exact .here | exact .there (.here) | exact .there (.there (.here)) | exact .there (.there (.there (.here))) | exact .there (.there (.there (.there (.here)))) | exact .there (.there (.there (.there (.there (.here))))) | exact .there (.there (.there (.there (.there (.there (.here)))))) | exact .there (.there (.there (.there (.there (.there (.there (.here))))))) | exact .there (.there (.there (.there (.there (.there (.there (.there (.here)))))))) | exact .there (.there (.there (.there (.there (.there (.there (.there (.there (.here))))))))) | exact .there (.there (.there (.there (.there (.there (.there (.there (.there (.there (.here)))))))))) | exact .there (.there (.there (.there (.there (.there (.there (.there (.there (.there (.there (.here))))))))))) | exact .there (.there (.there (.there (.there (.there (.there (.there (.there (.there (.there (.there (.here))))))))))))))) rfl (by omega) ?_)
            refine WL.op rfl (opW.fieldAddr rfl ((hS.sl (v := v40) (xs := l) (by first | exact .here | exact .there (.here) | exact .there (.there (.here)) | exact .there (.there (.there (.here))) | exact .there (.there (.there (.there (.here)))) | exact .there (.there (.there (.there (.there (.here))))) | exact .there (.there (.there (.there (.there (.there (.here)))))) | exact .there (.there (.there (.there (.there (.there (.there (.here))))))) | exact .there (.there (.there (.there (.there (.there (.there (.there (.here)))))))) | exact .there (.there (.there (.there (.there (.there (.there (.there (.there (.here))))))))) | exact .there (.there (.there (.there (.there (.there (.there (.there (.there (.there (.here)))))))))) | exact .there (.there (.there (.there (.there (.there (.there (.there (.there (.there (.there (.here))))))))))) | exact .there (.there (.there (.there (.there (.there (.there (.there (.there (.there (.there (.there (.here)))))))))))))).isP ha0) ?_)
            refine WL.op rfl (opW.loadV rfl (Ld.ptA ((hS.sl (v := v40) (xs := l) (by first | exact .here | exact .there (.here) | exact .there (.there (.here)) | exact .there (.there (.there (.here))) | exact .there (.there (.there (.there (.here)))) | exact .there (.there (.there (.there (.there (.here))))) | exact .there (.there (.there (.there (.there (.there (.here)))))) | exact .there (.there (.there (.there (.there (.there (.there (.here))))))) | exact .there (.there (.there (.there (.there (.there (.there (.there (.here)))))))) | exact .there (.there (.there (.there (.there (.there (.there (.there (.there (.here))))))))) | exact .there (.there (.there (.there (.there (.there (.there (.there (.there (.there (.here)))))))))) | exact .there (.there (.there (.there (.there (.there (.there (.there (.there (.there (.there (.here))))))))))) | exact .there (.there (.there (.there (.there (.there (.there (.there (.there (.there (.there (.there (.here)))))))))))))).isPt ha0) 1 (Account.ex_owner _) (by rw [Enc.size_eq]; decide)) ?_)
            refine WL.op rfl (opW.buildVec (k := sysK) (by first | rfl | (simp only [sysK, az, enc_vset, enc_vz]; rfl)) (by intro p hp; first | (exfalso; simp at hp; done) | (simp only [List.map_cons, List.map_nil, List.mem_cons, List.not_mem_nil, or_false] at hp; rcases hp with rfl | rfl | rfl | rfl <;> exact ⟨by simp, rfl⟩)) ?_)
            refine WL.op rfl (opW.neqE rfl rfl ?_)
            refine WL.nil ?_
            refine thenQ_n (hK33 _ _ ?_)
            refine WC.cond _ rfl (fun hc9 => ?_) (fun hc9 => ?_)
            ·
              have hr9 := hc9
              try simp only [decide_eq_true_eq, decide_eq_false_iff_not, Bool.and_eq_true, Bool.or_eq_true, Bool.and_eq_false_iff, Bool.or_eq_false_iff, Bool.not_eq_true', Bool.not_eq_false', Int.not_lt, Int.not_le] at hc9
              refine WC.seq (fun K34 hK34 => ?_)
              refine WC.region ?_
              refine WL.op rfl (opW.assignV (v := .slice none 0 0) rfl ?_)
              refine WL.op rfl (opW.assignI rfl ?_)
              refine WL.op rfl (opW.assignI rfl ?_)
              refine WL.nil ?_
              refine thenQ_n (hK34 _ _ ?_)
              refine WC.ret ?_
              refine thenQ_r ?_
              refine blockQ_r ?_
              refine thenQ_r ?_
              refine bodyQ_ret (.tmpV (v := .slice none 0 0) rfl (.tmpI rfl (.tmpI rfl .nil))) ?_
              have he : actE x l[ats[0].toNat] l[ats[j].toNat] (decide (ats[0].toNat = ats[j].toNat)) = 16 := by rw [actE1 htg]; unfold asE; rw [if_pos hr9]
              rw [hact, if_pos (by rw [he]; decide), he]
              exact ⟨_, rfl, New.nil _ _ _, hS.old⟩
            ·
              have hr9 := hc9
              try simp only [decide_eq_true_eq, decide_eq_false_iff_not, Bool.and_eq_true, Bool.or_eq_true, Bool.and_eq_false_iff, Bool.or_eq_false_iff, Bool.not_eq_true', Bool.not_eq_false', Int.not_lt, Int.not_le] at hc9
              refine WC.skip ?_
              refine thenQ_n (hK32 _ _ ?_)
              refine WC.region ?_
              refine WL.op rfl (opW.moveV (v := v40) rfl ?_)
              refine WL.op rfl (opW.moveI rfl ?_)
              refine WL.op rfl (opW.fieldAddrB rfl ?_)
              refine WL.op rfl (opW.loadV rfl (hS.ldF (cs := Enc.enc (toR x)) (o := 3) (by first | exact .here | exact .there (.here) | exact .there (.there (.here)) | exact .there (.there (.there (.here))) | exact .there (.there (.there (.there (.here)))) | exact .there (.there (.there (.there (.there (.here))))) | exact .there (.there (.there (.there (.there (.there (.here)))))) | exact .there (.there (.there (.there (.there (.there (.there (.here))))))) | exact .there (.there (.there (.there (.there (.there (.there (.there (.here)))))))) | exact .there (.there (.there (.there (.there (.there (.there (.there (.there (.here))))))))) | exact .there (.there (.there (.there (.there (.there (.there (.there (.there (.there (.here)))))))))) | exact .there (.there (.there (.there (.there (.there (.there (.there (.there (.there (.there (.here))))))))))) | exact .there (.there (.there (.there (.there (.there (.there (.there (.there (.there (.there (.there (.here))))))))))))) (toR_owner x) (by rw [Enc.size_eq]; decide)) ?_)
              refine WL.op rfl (opW.idxV rfl ((hS.sl (v := v40) (xs := l) (by first | exact .here | exact .there (.here) | exact .there (.there (.here)) | exact .there (.there (.there (.here))) | exact .there (.there (.there (.there (.here)))) | exact .there (.there (.there (.there (.there (.here))))) | exact .there (.there (.there (.there (.there (.there (.here)))))) | exact .there (.there (.there (.there (.there (.there (.there (.here))))))) | exact .there (.there (.there (.there (.there (.there (.there (.there (.here)))))))) | exact .there (.there (.there (.there (.there (.there (.there (.there (.there (.here))))))))) | exact .there (.there (.there (.there (.there (.there (.there (.there (.there (.there (.here)))))))))) | exact .there (.there (.there (.there (.there (.there (.there (.there (.there (.there (.there (.here))))))))))) | exact .there (.there (.there (.there (.there (.there (.there (.there (.there (.there (.there (.there (.here))))))))))))))) rfl (by omega) ?_)
              refine WL.op rfl (opW.fieldAddr rfl ((hS.sl (v := v40) (xs := l) (by first | exact .here | exact .there (.here) | exact .there (.there (.here)) | exact .there (.there (.there (.here))) | exact .there (.there (.there (.there (.here)))) | exact .there (.there (.there (.there (.there (.here))))) | exact .there (.there (.there (.there (.there (.there (.here)))))) | exact .there (.there (.there (.there (.there (.there (.there (.here))))))) | exact .there (.there (.there (.there (.there (.there (.there (.there (.here)))))))) | exact .there (.there (.there (.there (.there (.there (.there (.there (.there (.here))))))))) | exact .there (.there (.there (.there (.there (.there (.there (.there (.there (.there (.here)))))))))) | exact .there (.there (.there (.there (.there (.there (.there (.there (.there (.there (.there (.here))))))))))) | exact .there (.there (.there (.there (.there (.there (.there (.there (.there (.there (.there (.there (.here)))))))))))))).isP ha0) ?_)
              refine WL.op0 (opW.storeOwn (v := v40) (u := .agg (Enc.enc x.owner)) (sz := 32) (xs := l) (i := ats[0].toNat) (off := 1) (y' := { l[ats[0].toNat] with owner := x.owner }) hS (by first | exact .here | exact .there (.here) | exact .there (.there (.here)) | exact .there (.there (.there (.here))) | exact .there (.there (.there (.there (.here)))) | exact .there (.there (.there (.there (.there (.here))))) | exact .there (.there (.there (.there (.there (.there (.here)))))) | exact .there (.there (.there (.there (.there (.there (.there (.here))))))) | exact .there (.there (.there (.there (.there (.there (.there (.there (.here)))))))) | exact .there (.there (.there (.there (.there (.there (.there (.there (.there (.here))))))))) | exact .there (.there (.there (.there (.there (.there (.there (.there (.there (.there (.here)))))))))) | exact .there (.there (.there (.there (.there (.there (.there (.there (.there (.there (.there (.here))))))))))) | exact .there (.there (.there (.there (.there (.there (.there (.there (.there (.there (.there (.there (.here))))))))))))) ha0 rfl rfl (Enc.size_eq x.owner) (by decide) (Enc.one x.owner) (Account.set_owner l[ats[0].toNat] x.owner) ?_)
              intro w hS; replace hS := hS _ (by first | exact .here | exact .there (.here) | exact .there (.there (.here)) | exact .there (.there (.there (.here))) | exact .there (.there (.there (.there (.here)))) | exact .there (.there (.there (.there (.there (.here))))) | exact .there (.there (.there (.there (.there (.there (.here)))))) | exact .there (.there (.there (.there (.there (.there (.there (.here))))))) | exact .there (.there (.there (.there (.there (.there (.there (.there (.here)))))))) | exact .there (.there (.there (.there (.there (.there (.there (.there (.there (.here))))))))) | exact .there (.there (.there (.there (.there (.there (.there (.there (.there (.there (.here)))))))))) | exact .there (.there (.there (.there (.there (.there (.there (.there (.there (.there (.there (.here))))))))))) | exact .there (.there (.there (.there (.there (.there (.there (.there (.there (.there (.there (.there (.here)))))))))))))
              refine WL.nil ?_
              refine blockQ_n ?_
              refine thenQ_n (hK14 _ _ ?_)
              refine WC.seq (fun K35 hK35 => ?_)
              refine WC.draw 6 (.look 0 (.look 1 (.look 2 (.look 3 (.look 4 (.look 5 .nil)))))) (by kernel_rfl) (fun _ _ _ h => h) (fun w1 hw1 => ?_)
              replace hS := hS.bel hw1
              have hS1 := hS
              have hT := St.start w1
              refine ML.look rfl rfl rfl (fun w hw => (by have hS := hS1.bel hw; exact opW.moveV (v := v40) rfl ⟨rfl, rfl⟩)) ?_
              refine ML.look rfl rfl rfl (fun w hw => (by have hS := hS1.bel hw; exact opW.fieldAddrB rfl ⟨rfl, rfl⟩)) ?_
              refine ML.look rfl rfl rfl (fun w hw => (by have hS := hS1.bel hw; exact opW.loadV rfl (hS.ld1 (by first | exact .here | exact .there (.here) | exact .there (.there (.here)) | exact .there (.there (.there (.here))) | exact .there (.there (.there (.there (.here)))) | exact .there (.there (.there (.there (.there (.here))))) | exact .there (.there (.there (.there (.there (.there (.here)))))) | exact .there (.there (.there (.there (.there (.there (.there (.here))))))) | exact .there (.there (.there (.there (.there (.there (.there (.there (.here)))))))) | exact .there (.there (.there (.there (.there (.there (.there (.there (.there (.here))))))))) | exact .there (.there (.there (.there (.there (.there (.there (.there (.there (.there (.here)))))))))) | exact .there (.there (.there (.there (.there (.there (.there (.there (.there (.there (.there (.here))))))))))) | exact .there (.there (.there (.there (.there (.there (.there (.there (.there (.there (.there (.there (.here))))))))))))) (toR_space x)) ⟨rfl, rfl⟩)) ?_
              refine ML.look rfl rfl rfl (fun w hw => (by have hS := hS1.bel hw; exact opW.assignV (v := v40) rfl ⟨rfl, rfl⟩)) ?_
              refine ML.look rfl rfl rfl (fun w hw => (by have hS := hS1.bel hw; exact opW.assignI rfl ⟨rfl, rfl⟩)) ?_
              refine ML.look rfl rfl rfl (fun w hw => (by have hS := hS1.bel hw; exact opW.assignI rfl ⟨rfl, rfl⟩)) ?_
              refine ML.nil ?_
              refine thenQ_n (hK35 _ _ ?_)
              refine WC.ret ?_
              refine bodyQ_ret (.tmpV (v := v40) rfl (.tmpI rfl (.tmpI rfl .nil))) ?_
              have he : actE x l[ats[0].toNat] l[ats[j].toNat] (decide (ats[0].toNat = ats[j].toNat)) = 0 := by rw [actE1 htg]; unfold asE; rw [if_neg (by rw [hr9]; decide)]
              rw [hact, if_neg (fun e => e he), actL1 htg]
              exact ⟨_, rfl, hS.own_new (by first | exact .here | exact .there (.here) | exact .there (.there (.here)) | exact .there (.there (.there (.here))) | exact .there (.there (.there (.there (.here)))) | exact .there (.there (.there (.there (.there (.here))))) | exact .there (.there (.there (.there (.there (.there (.here)))))) | exact .there (.there (.there (.there (.there (.there (.there (.here))))))) | exact .there (.there (.there (.there (.there (.there (.there (.there (.here)))))))) | exact .there (.there (.there (.there (.there (.there (.there (.there (.there (.here))))))))) | exact .there (.there (.there (.there (.there (.there (.there (.there (.there (.there (.here)))))))))) | exact .there (.there (.there (.there (.there (.there (.there (.there (.there (.there (.there (.here))))))))))) | exact .there (.there (.there (.there (.there (.there (.there (.there (.there (.there (.there (.there (.here))))))))))))), hS.old⟩
          ·
            have hr8 := hc8
            try simp only [decide_eq_true_eq, decide_eq_false_iff_not, Bool.and_eq_true, Bool.or_eq_true, Bool.and_eq_false_iff, Bool.or_eq_false_iff, Bool.not_eq_true', Bool.not_eq_false', Int.not_lt, Int.not_le] at hc8
            refine WC.seq (fun K36 hK36 => ?_)
            refine WC.region ?_
            refine WL.op rfl (opW.eql rfl rfl ?_)
            refine WL.op rfl (opW.assignB rfl ?_)
            refine WL.nil ?_
            refine thenQ_n (hK36 _ _ ?_)
            refine WC.cond _ rfl (fun hc10 => ?_) (fun hc10 => ?_)
            ·
              have hr10 := hc10
              try simp only [decide_eq_true_eq, decide_eq_false_iff_not, Bool.and_eq_true, Bool.or_eq_true, Bool.and_eq_false_iff, Bool.or_eq_false_iff, Bool.not_eq_true', Bool.not_eq_false', Int.not_lt, Int.not_le] at hc10
              have htg : x.tag = 2 := by omega
              refine WC.seq (fun K37 hK37 => ?_)
              refine WC.seq (fun K38 hK38 => ?_)
              refine WC.region ?_
              refine WL.op rfl (opW.moveV (v := v40) rfl ?_)
              refine WL.op rfl (opW.moveI rfl ?_)
              refine WL.op rfl (opW.idxV rfl ((hS.sl (v := v40) (xs := l) (by first | exact .here | exact .there (.here) | exact .there (.there (.here)) | exact .there (.there (.there (.here))) | exact .there (.there (.there (.there (.here)))) | exact .there (.there (.there (.there (.there (.here))))) | exact .there (.there (.there (.there (.there (.there (.here)))))) | exact .there (.there (.there (.there (.there (.there (.there (.here))))))) | exact .there (.there (.there (.there (.there (.there (.there (.there (.here)))))))) | exact .there (.there (.there (.there (.there (.there (.there (.there (.there (.here))))))))) | exact .there (.there (.there (.there (.there (.there (.there (.there (.there (.there (.here)))))))))) | exact .there (.there (.there (.there (.there (.there (.there (.there (.there (.there (.there (.here))))))))))) | exact .there (.there (.there (.there (.there (.there (.there (.there (.there (.there (.there (.there (.here))))))))))))))) rfl (by omega) ?_)
              refine WL.op rfl (opW.loadV rfl (((hS.sl (v := v40) (xs := l) (by first | exact .here | exact .there (.here) | exact .there (.there (.here)) | exact .there (.there (.there (.here))) | exact .there (.there (.there (.there (.here)))) | exact .there (.there (.there (.there (.there (.here))))) | exact .there (.there (.there (.there (.there (.there (.here)))))) | exact .there (.there (.there (.there (.there (.there (.there (.here))))))) | exact .there (.there (.there (.there (.there (.there (.there (.there (.here)))))))) | exact .there (.there (.there (.there (.there (.there (.there (.there (.there (.here))))))))) | exact .there (.there (.there (.there (.there (.there (.there (.there (.there (.there (.here)))))))))) | exact .there (.there (.there (.there (.there (.there (.there (.there (.there (.there (.there (.here))))))))))) | exact .there (.there (.there (.there (.there (.there (.there (.there (.there (.there (.there (.there (.here)))))))))))))).isPt ha0).ldA (Enc.size_eq l[ats[0].toNat])) ?_)
              refine WL.op rfl (opW.call (rplain_ok _ l[ats[0].toNat]) rfl ?_)
              rintro _ w ⟨rfl, hw⟩; replace hS := hS.bel hw
              refine WL.op rfl (opW.not rfl ?_)
              refine WL.nil ?_
              refine thenQ_n (hK38 _ _ ?_)
              refine WC.cond _ rfl (fun hc11 => ?_) (fun hc11 => ?_)
              ·
                have hr11 := hc11
                try simp only [decide_eq_true_eq, decide_eq_false_iff_not, Bool.and_eq_true, Bool.or_eq_true, Bool.and_eq_false_iff, Bool.or_eq_false_iff, Bool.not_eq_true', Bool.not_eq_false', Int.not_lt, Int.not_le] at hc11
                refine WC.seq (fun K39 hK39 => ?_)
                refine WC.region ?_
                refine WL.op rfl (opW.assignV (v := .slice none 0 0) rfl ?_)
                refine WL.op rfl (opW.assignI rfl ?_)
                refine WL.op rfl (opW.assignI rfl ?_)
                refine WL.nil ?_
                refine thenQ_n (hK39 _ _ ?_)
                refine WC.ret ?_
                refine thenQ_r ?_
                refine blockQ_r ?_
                refine thenQ_r ?_
                refine bodyQ_ret (.tmpV (v := .slice none 0 0) rfl (.tmpI rfl (.tmpI rfl .nil))) ?_
                have he : actE x l[ats[0].toNat] l[ats[j].toNat] (decide (ats[0].toNat = ats[j].toNat)) = 16 := by rw [actE2 htg]; unfold mvE; rw [if_pos hr11]
                rw [hact, if_pos (by rw [he]; decide), he]
                exact ⟨_, rfl, New.nil _ _ _, hS.old⟩
              ·
                have hr11 := hc11
                try simp only [decide_eq_true_eq, decide_eq_false_iff_not, Bool.and_eq_true, Bool.or_eq_true, Bool.and_eq_false_iff, Bool.or_eq_false_iff, Bool.not_eq_true', Bool.not_eq_false', Int.not_lt, Int.not_le] at hc11
                refine WC.skip ?_
                refine thenQ_n (hK37 _ _ ?_)
                refine WC.seq (fun K40 hK40 => ?_)
                refine WC.seq (fun K41 hK41 => ?_)
                refine WC.draw 8 (.look 0 (.look 1 (.look 2 (.look 3 (.look 4 (.look 5 (.look 6 (.look 7 .nil)))))))) (by kernel_rfl) (fun _ _ _ h => h) (fun w1 hw1 => ?_)
                replace hS := hS.bel hw1
                have hS1 := hS
                have hT := St.start w1
                refine ML.look rfl rfl rfl (fun w hw => (by have hS := hS1.bel hw; exact opW.moveV (v := v40) rfl ⟨rfl, rfl⟩)) ?_
                refine ML.look rfl rfl rfl (fun w hw => (by have hS := hS1.bel hw; exact opW.moveI rfl ⟨rfl, rfl⟩)) ?_
                refine ML.look rfl rfl rfl (fun w hw => (by have hS := hS1.bel hw; exact opW.idxV rfl ((hS.sl (v := v40) (xs := l) (by first | exact .here | exact .there (.here) | exact .there (.there (.here)) | exact .there (.there (.there (.here))) | exact .there (.there (.there (.there (.here)))) | exact .there (.there (.there (.there (.there (.here))))) | exact .there (.there (.there (.there (.there (.there (.here)))))) | exact .there (.there (.there (.there (.there (.there (.there (.here))))))) | exact .there (.there (.there (.there (.there (.there (.there (.there (.here)))))))) | exact .there (.there (.there (.there (.there (.there (.there (.there (.there (.here))))))))) | exact .there (.there (.there (.there (.there (.there (.there (.there (.there (.there (.here)))))))))) | exact .there (.there (.there (.there (.there (.there (.there (.there (.there (.there (.there (.here))))))))))) | exact .there (.there (.there (.there (.there (.there (.there (.there (.there (.there (.there (.there (.here))))))))))))))) rfl (by omega) ⟨rfl, rfl⟩)) ?_
                refine ML.look rfl rfl rfl (fun w hw => (by have hS := hS1.bel hw; exact opW.fieldAddr rfl ((hS.sl (v := v40) (xs := l) (by first | exact .here | exact .there (.here) | exact .there (.there (.here)) | exact .there (.there (.there (.here))) | exact .there (.there (.there (.there (.here)))) | exact .there (.there (.there (.there (.there (.here))))) | exact .there (.there (.there (.there (.there (.there (.here)))))) | exact .there (.there (.there (.there (.there (.there (.there (.here))))))) | exact .there (.there (.there (.there (.there (.there (.there (.there (.here)))))))) | exact .there (.there (.there (.there (.there (.there (.there (.there (.there (.here))))))))) | exact .there (.there (.there (.there (.there (.there (.there (.there (.there (.there (.here)))))))))) | exact .there (.there (.there (.there (.there (.there (.there (.there (.there (.there (.there (.here))))))))))) | exact .there (.there (.there (.there (.there (.there (.there (.there (.there (.there (.there (.there (.here)))))))))))))).isP ha0) ⟨rfl, rfl⟩)) ?_
                refine ML.look rfl rfl rfl (fun w hw => (by have hS := hS1.bel hw; exact opW.loadV rfl (Ld.pt1 ((hS.sl (v := v40) (xs := l) (by first | exact .here | exact .there (.here) | exact .there (.there (.here)) | exact .there (.there (.there (.here))) | exact .there (.there (.there (.there (.here)))) | exact .there (.there (.there (.there (.there (.here))))) | exact .there (.there (.there (.there (.there (.there (.here)))))) | exact .there (.there (.there (.there (.there (.there (.there (.here))))))) | exact .there (.there (.there (.there (.there (.there (.there (.there (.here)))))))) | exact .there (.there (.there (.there (.there (.there (.there (.there (.there (.here))))))))) | exact .there (.there (.there (.there (.there (.there (.there (.there (.there (.there (.here)))))))))) | exact .there (.there (.there (.there (.there (.there (.there (.there (.there (.there (.there (.here))))))))))) | exact .there (.there (.there (.there (.there (.there (.there (.there (.there (.there (.there (.there (.here)))))))))))))).isPt ha0) 0 (Account.at_coins _)) ⟨rfl, rfl⟩)) ?_
                refine ML.look rfl rfl rfl (fun w hw => (by have hS := hS1.bel hw; exact opW.fieldAddrB rfl ⟨rfl, rfl⟩)) ?_
                refine ML.look rfl rfl rfl (fun w hw => (by have hS := hS1.bel hw; exact opW.loadV rfl (hS.ld1 (by first | exact .here | exact .there (.here) | exact .there (.there (.here)) | exact .there (.there (.there (.here))) | exact .there (.there (.there (.there (.here)))) | exact .there (.there (.there (.there (.there (.here))))) | exact .there (.there (.there (.there (.there (.there (.here)))))) | exact .there (.there (.there (.there (.there (.there (.there (.here))))))) | exact .there (.there (.there (.there (.there (.there (.there (.there (.here)))))))) | exact .there (.there (.there (.there (.there (.there (.there (.there (.there (.here))))))))) | exact .there (.there (.there (.there (.there (.there (.there (.there (.there (.there (.here)))))))))) | exact .there (.there (.there (.there (.there (.there (.there (.there (.there (.there (.there (.here))))))))))) | exact .there (.there (.there (.there (.there (.there (.there (.there (.there (.there (.there (.there (.here))))))))))))) (toR_coins x)) ⟨rfl, rfl⟩)) ?_
                refine ML.look rfl rfl rfl (fun w hw => (by have hS := hS1.bel hw; exact opW.lss rfl rfl ⟨rfl, rfl⟩)) ?_
                refine ML.nil ?_
                refine thenQ_n (hK41 _ _ ?_)
                refine WC.cond _ rfl (fun hc12 => ?_) (fun hc12 => ?_)
                ·
                  have hr12 := hc12
                  try simp only [decide_eq_true_eq, decide_eq_false_iff_not, Bool.and_eq_true, Bool.or_eq_true, Bool.and_eq_false_iff, Bool.or_eq_false_iff, Bool.not_eq_true', Bool.not_eq_false', Int.not_lt, Int.not_le] at hc12
                  refine WC.seq (fun K42 hK42 => ?_)
                  refine WC.region ?_
                  refine WL.op rfl (opW.assignV (v := .slice none 0 0) rfl ?_)
                  refine WL.op rfl (opW.assignI rfl ?_)
                  refine WL.op rfl (opW.assignI rfl ?_)
                  refine WL.nil ?_
                  refine thenQ_n (hK42 _ _ ?_)
                  refine WC.ret ?_
                  refine thenQ_r ?_
                  refine blockQ_r ?_
                  refine thenQ_r ?_
                  refine bodyQ_ret (.tmpV (v := .slice none 0 0) rfl (.tmpI rfl (.tmpI rfl .nil))) ?_
                  have he : actE x l[ats[0].toNat] l[ats[j].toNat] (decide (ats[0].toNat = ats[j].toNat)) = 17 := by rw [actE2 htg]; unfold mvE; rw [if_neg (by rw [hr11]; decide), if_pos hc12]
                  rw [hact, if_pos (by rw [he]; decide), he]
                  exact ⟨_, rfl, New.nil _ _ _, hS.old⟩
                ·
                  have hr12 := hc12
                  try simp only [decide_eq_true_eq, decide_eq_false_iff_not, Bool.and_eq_true, Bool.or_eq_true, Bool.and_eq_false_iff, Bool.or_eq_false_iff, Bool.not_eq_true', Bool.not_eq_false', Int.not_lt, Int.not_le] at hc12
                  refine WC.skip ?_
                  refine thenQ_n (hK40 _ _ ?_)
                  refine WC.seq (fun K43 hK43 => ?_)
                  refine WC.region ?_
                  refine WL.op rfl (opW.moveI rfl ?_)
                  refine WL.op rfl (opW.moveI rfl ?_)
                  refine WL.op rfl (opW.neq rfl rfl ?_)
                  refine WL.nil ?_
                  refine thenQ_n (hK43 _ _ ?_)
                  refine WC.cond _ rfl (fun hc13 => ?_) (fun hc13 => ?_)
                  ·
                    have hr13 := hc13
                    try simp only [decide_eq_true_eq, decide_eq_false_iff_not, Bool.and_eq_true, Bool.or_eq_true, Bool.and_eq_false_iff, Bool.or_eq_false_iff, Bool.not_eq_true', Bool.not_eq_false', Int.not_lt, Int.not_le] at hc13
                    have hab : ats[0].toNat ≠ ats[j].toNat := by omega
                    refine WC.seq (fun K44 hK44 => ?_)
                    refine WC.seq (fun K45 hK45 => ?_)
                    refine WC.draw 9 (.look 0 (.look 1 (.look 2 (.look 3 (.look 4 (.look 5 (.look 6 (.look 7 (.look 8 .nil))))))))) (by kernel_rfl) (fun _ _ _ h => h) (fun w1 hw1 => ?_)
                    replace hS := hS.bel hw1
                    have hS1 := hS
                    have hT := St.start w1
                    refine ML.look rfl rfl rfl (fun w hw => (by have hS := hS1.bel hw; exact opW.moveV (v := v40) rfl ⟨rfl, rfl⟩)) ?_
                    refine ML.look rfl rfl rfl (fun w hw => (by have hS := hS1.bel hw; exact opW.moveI rfl ⟨rfl, rfl⟩)) ?_
                    refine ML.look rfl rfl rfl (fun w hw => (by have hS := hS1.bel hw; exact opW.idxV rfl ((hS.sl (v := v40) (xs := l) (by first | exact .here | exact .there (.here) | exact .there (.there (.here)) | exact .there (.there (.there (.here))) | exact .there (.there (.there (.there (.here)))) | exact .there (.there (.there (.there (.there (.here))))) | exact .there (.there (.there (.there (.there (.there (.here)))))) | exact .there (.there (.there (.there (.there (.there (.there (.here))))))) | exact .there (.there (.there (.there (.there (.there (.there (.there (.here)))))))) | exact .there (.there (.there (.there (.there (.there (.there (.there (.there (.here))))))))) | exact .there (.there (.there (.there (.there (.there (.there (.there (.there (.there (.here)))))))))) | exact .there (.there (.there (.there (.there (.there (.there (.there (.there (.there (.there (.here))))))))))) | exact .there (.there (.there (.there (.there (.there (.there (.there (.there (.there (.there (.there (.here))))))))))))))) rfl (by omega) ⟨rfl, rfl⟩)) ?_
                    refine ML.look rfl rfl rfl (fun w hw => (by have hS := hS1.bel hw; exact opW.fieldAddr rfl ((hS.sl (v := v40) (xs := l) (by first | exact .here | exact .there (.here) | exact .there (.there (.here)) | exact .there (.there (.there (.here))) | exact .there (.there (.there (.there (.here)))) | exact .there (.there (.there (.there (.there (.here))))) | exact .there (.there (.there (.there (.there (.there (.here)))))) | exact .there (.there (.there (.there (.there (.there (.there (.here))))))) | exact .there (.there (.there (.there (.there (.there (.there (.there (.here)))))))) | exact .there (.there (.there (.there (.there (.there (.there (.there (.there (.here))))))))) | exact .there (.there (.there (.there (.there (.there (.there (.there (.there (.there (.here)))))))))) | exact .there (.there (.there (.there (.there (.there (.there (.there (.there (.there (.there (.here))))))))))) | exact .there (.there (.there (.there (.there (.there (.there (.there (.there (.there (.there (.there (.here)))))))))))))).isP haj) ⟨rfl, rfl⟩)) ?_
                    refine ML.look rfl rfl rfl (fun w hw => (by have hS := hS1.bel hw; exact opW.loadV rfl (Ld.pt1 ((hS.sl (v := v40) (xs := l) (by first | exact .here | exact .there (.here) | exact .there (.there (.here)) | exact .there (.there (.there (.here))) | exact .there (.there (.there (.there (.here)))) | exact .there (.there (.there (.there (.there (.here))))) | exact .there (.there (.there (.there (.there (.there (.here)))))) | exact .there (.there (.there (.there (.there (.there (.there (.here))))))) | exact .there (.there (.there (.there (.there (.there (.there (.there (.here)))))))) | exact .there (.there (.there (.there (.there (.there (.there (.there (.there (.here))))))))) | exact .there (.there (.there (.there (.there (.there (.there (.there (.there (.there (.here)))))))))) | exact .there (.there (.there (.there (.there (.there (.there (.there (.there (.there (.there (.here))))))))))) | exact .there (.there (.there (.there (.there (.there (.there (.there (.there (.there (.there (.there (.here)))))))))))))).isPt haj) 0 (Account.at_coins _)) ⟨rfl, rfl⟩)) ?_
                    refine ML.look rfl rfl rfl (fun w hw => (by have hS := hS1.bel hw; exact opW.fieldAddrB rfl ⟨rfl, rfl⟩)) ?_
                    refine ML.look rfl rfl rfl (fun w hw => (by have hS := hS1.bel hw; exact opW.loadV rfl (hS.ld1 (by first | exact .here | exact .there (.here) | exact .there (.there (.here)) | exact .there (.there (.there (.here))) | exact .there (.there (.there (.there (.here)))) | exact .there (.there (.there (.there (.there (.here))))) | exact .there (.there (.there (.there (.there (.there (.here)))))) | exact .there (.there (.there (.there (.there (.there (.there (.here))))))) | exact .there (.there (.there (.there (.there (.there (.there (.there (.here)))))))) | exact .there (.there (.there (.there (.there (.there (.there (.there (.there (.here))))))))) | exact .there (.there (.there (.there (.there (.there (.there (.there (.there (.there (.here)))))))))) | exact .there (.there (.there (.there (.there (.there (.there (.there (.there (.there (.there (.here))))))))))) | exact .there (.there (.there (.there (.there (.there (.there (.there (.there (.there (.there (.there (.here))))))))))))) (toR_coins x)) ⟨rfl, rfl⟩)) ?_
                    refine ML.look rfl rfl rfl (fun w hw => (by have hS := hS1.bel hw; exact opW.sub rfl rfl (sub_max _ hxc) ⟨rfl, rfl⟩)) ?_
                    refine ML.look rfl rfl rfl (fun w hw => (by have hS := hS1.bel hw; exact opW.gtr rfl rfl ⟨rfl, rfl⟩)) ?_
                    refine ML.nil ?_
                    refine thenQ_n (hK45 _ _ ?_)
                    refine WC.cond _ rfl (fun hc14 => ?_) (fun hc14 => ?_)
                    ·
                      have hr14 := hc14
                      try simp only [decide_eq_true_eq, decide_eq_false_iff_not, Bool.and_eq_true, Bool.or_eq_true, Bool.and_eq_false_iff, Bool.or_eq_false_iff, Bool.not_eq_true', Bool.not_eq_false', Int.not_lt, Int.not_le] at hc14
                      refine WC.seq (fun K46 hK46 => ?_)
                      refine WC.region ?_
                      refine WL.op rfl (opW.assignV (v := .slice none 0 0) rfl ?_)
                      refine WL.op rfl (opW.assignI rfl ?_)
                      refine WL.op rfl (opW.assignI rfl ?_)
                      refine WL.nil ?_
                      refine thenQ_n (hK46 _ _ ?_)
                      refine WC.ret ?_
                      refine thenQ_r ?_
                      refine blockQ_r ?_
                      refine thenQ_r ?_
                      refine bodyQ_ret (.tmpV (v := .slice none 0 0) rfl (.tmpI rfl (.tmpI rfl .nil))) ?_
                      have he : actE x l[ats[0].toNat] l[ats[j].toNat] (decide (ats[0].toNat = ats[j].toNat)) = 18 := by rw [actE2 htg]; unfold mvE; rw [if_neg (by rw [hr11]; decide), if_neg (by omega), if_neg (by rw [decide_eq_false hab]; decide), if_pos hc14]
                      rw [hact, if_pos (by rw [he]; decide), he]
                      exact ⟨_, rfl, New.nil _ _ _, hS.old⟩
                    ·
                      have hr14 := hc14
                      try simp only [decide_eq_true_eq, decide_eq_false_iff_not, Bool.and_eq_true, Bool.or_eq_true, Bool.and_eq_false_iff, Bool.or_eq_false_iff, Bool.not_eq_true', Bool.not_eq_false', Int.not_lt, Int.not_le] at hc14
                      refine WC.skip ?_
                      refine thenQ_n (hK44 _ _ ?_)
                      refine WC.seq (fun K47 hK47 => ?_)
                      refine WC.draw 12 (.look 0 (.look 1 (.look 2 (.look 3 (.look 4 (.look 5 (.look 6 (.look 7 (.look 8 (.look 9 (.look 10 (.look 11 (.one 12 .nil))))))))))))) (by kernel_rfl) (fun _ _ _ h => h) (fun w1 hw1 => ?_)
                      replace hS := hS.bel hw1
                      have hS1 := hS
                      have hT := St.start w1
                      refine ML.look rfl rfl rfl (fun w hw => (by have hS := hS1.bel hw; exact opW.moveV (v := v40) rfl ⟨rfl, rfl⟩)) ?_
                      refine ML.look rfl rfl rfl (fun w hw => (by have hS := hS1.bel hw; exact opW.moveI rfl ⟨rfl, rfl⟩)) ?_
                      refine ML.look rfl rfl rfl (fun w hw => (by have hS := hS1.bel hw; exact opW.moveV (v := v40) rfl ⟨rfl, rfl⟩)) ?_
                      refine ML.look rfl rfl rfl (fun w hw => (by have hS := hS1.bel hw; exact opW.moveI rfl ⟨rfl, rfl⟩)) ?_
                      refine ML.look rfl rfl rfl (fun w hw => (by have hS := hS1.bel hw; exact opW.idxV rfl ((hS.sl (v := v40) (xs := l) (by first | exact .here | exact .there (.here) | exact .there (.there (.here)) | exact .there (.there (.there (.here))) | exact .there (.there (.there (.there (.here)))) | exact .there (.there (.there (.there (.there (.here))))) | exact .there (.there (.there (.there (.there (.there (.here)))))) | exact .there (.there (.there (.there (.there (.there (.there (.here))))))) | exact .there (.there (.there (.there (.there (.there (.there (.there (.here)))))))) | exact .there (.there (.there (.there (.there (.there (.there (.there (.there (.here))))))))) | exact .there (.there (.there (.there (.there (.there (.there (.there (.there (.there (.here)))))))))) | exact .there (.there (.there (.there (.there (.there (.there (.there (.there (.there (.there (.here))))))))))) | exact .there (.there (.there (.there (.there (.there (.there (.there (.there (.there (.there (.there (.here))))))))))))))) rfl (by omega) ⟨rfl, rfl⟩)) ?_
                      refine ML.look rfl rfl rfl (fun w hw => (by have hS := hS1.bel hw; exact opW.fieldAddr rfl ((hS.sl (v := v40) (xs := l) (by first | exact .here | exact .there (.here) | exact .there (.there (.here)) | exact .there (.there (.there (.here))) | exact .there (.there (.there (.there (.here)))) | exact .there (.there (.there (.there (.there (.here))))) | exact .there (.there (.there (.there (.there (.there (.here)))))) | exact .there (.there (.there (.there (.there (.there (.there (.here))))))) | exact .there (.there (.there (.there (.there (.there (.there (.there (.here)))))))) | exact .there (.there (.there (.there (.there (.there (.there (.there (.there (.here))))))))) | exact .there (.there (.there (.there (.there (.there (.there (.there (.there (.there (.here)))))))))) | exact .there (.there (.there (.there (.there (.there (.there (.there (.there (.there (.there (.here))))))))))) | exact .there (.there (.there (.there (.there (.there (.there (.there (.there (.there (.there (.there (.here)))))))))))))).isP ha0) ⟨rfl, rfl⟩)) ?_
                      refine ML.look rfl rfl rfl (fun w hw => (by have hS := hS1.bel hw; exact opW.loadV rfl (Ld.pt1 ((hS.sl (v := v40) (xs := l) (by first | exact .here | exact .there (.here) | exact .there (.there (.here)) | exact .there (.there (.there (.here))) | exact .there (.there (.there (.there (.here)))) | exact .there (.there (.there (.there (.there (.here))))) | exact .there (.there (.there (.there (.there (.there (.here)))))) | exact .there (.there (.there (.there (.there (.there (.there (.here))))))) | exact .there (.there (.there (.there (.there (.there (.there (.there (.here)))))))) | exact .there (.there (.there (.there (.there (.there (.there (.there (.there (.here))))))))) | exact .there (.there (.there (.there (.there (.there (.there (.there (.there (.there (.here)))))))))) | exact .there (.there (.there (.there (.there (.there (.there (.there (.there (.there (.there (.here))))))))))) | exact .there (.there (.there (.there (.there (.there (.there (.there (.there (.there (.there (.there (.here)))))))))))))).isPt ha0) 0 (Account.at_coins _)) ⟨rfl, rfl⟩)) ?_
                      refine ML.look rfl rfl rfl (fun w hw => (by have hS := hS1.bel hw; exact opW.fieldAddrB rfl ⟨rfl, rfl⟩)) ?_
                      refine ML.look rfl rfl rfl (fun w hw => (by have hS := hS1.bel hw; exact opW.loadV rfl (hS.ld1 (by first | exact .here | exact .there (.here) | exact .there (.there (.here)) | exact .there (.there (.there (.here))) | exact .there (.there (.there (.there (.here)))) | exact .there (.there (.there (.there (.there (.here))))) | exact .there (.there (.there (.there (.there (.there (.here)))))) | exact .there (.there (.there (.there (.there (.there (.there (.here))))))) | exact .there (.there (.there (.there (.there (.there (.there (.there (.here)))))))) | exact .there (.there (.there (.there (.there (.there (.there (.there (.there (.here))))))))) | exact .there (.there (.there (.there (.there (.there (.there (.there (.there (.there (.here)))))))))) | exact .there (.there (.there (.there (.there (.there (.there (.there (.there (.there (.there (.here))))))))))) | exact .there (.there (.there (.there (.there (.there (.there (.there (.there (.there (.there (.there (.here))))))))))))) (toR_coins x)) ⟨rfl, rfl⟩)) ?_
                      refine ML.look rfl rfl rfl (fun w hw => (by have hS := hS1.bel hw; exact opW.sub rfl rfl (nsub (by omega) hA.1) ⟨rfl, rfl⟩)) ?_
                      refine ML.look rfl rfl rfl (fun w hw => (by have hS := hS1.bel hw; exact opW.idxV rfl ((hS.sl (v := v40) (xs := l) (by first | exact .here | exact .there (.here) | exact .there (.there (.here)) | exact .there (.there (.there (.here))) | exact .there (.there (.there (.there (.here)))) | exact .there (.there (.there (.there (.there (.here))))) | exact .there (.there (.there (.there (.there (.there (.here)))))) | exact .there (.there (.there (.there (.there (.there (.there (.here))))))) | exact .there (.there (.there (.there (.there (.there (.there (.there (.here)))))))) | exact .there (.there (.there (.there (.there (.there (.there (.there (.there (.here))))))))) | exact .there (.there (.there (.there (.there (.there (.there (.there (.there (.there (.here)))))))))) | exact .there (.there (.there (.there (.there (.there (.there (.there (.there (.there (.there (.here))))))))))) | exact .there (.there (.there (.there (.there (.there (.there (.there (.there (.there (.there (.there (.here))))))))))))))) rfl (by omega) ⟨rfl, rfl⟩)) ?_
                      refine ML.look rfl rfl rfl (fun w hw => (by have hS := hS1.bel hw; exact opW.fieldAddr rfl ((hS.sl (v := v40) (xs := l) (by first | exact .here | exact .there (.here) | exact .there (.there (.here)) | exact .there (.there (.there (.here))) | exact .there (.there (.there (.there (.here)))) | exact .there (.there (.there (.there (.there (.here))))) | exact .there (.there (.there (.there (.there (.there (.here)))))) | exact .there (.there (.there (.there (.there (.there (.there (.here))))))) | exact .there (.there (.there (.there (.there (.there (.there (.there (.here)))))))) | exact .there (.there (.there (.there (.there (.there (.there (.there (.there (.here))))))))) | exact .there (.there (.there (.there (.there (.there (.there (.there (.there (.there (.here)))))))))) | exact .there (.there (.there (.there (.there (.there (.there (.there (.there (.there (.there (.here))))))))))) | exact .there (.there (.there (.there (.there (.there (.there (.there (.there (.there (.there (.there (.here)))))))))))))).isP ha0) ⟨rfl, rfl⟩)) ?_
                      refine ML.put0 rfl rfl rfl (opW.storeOwn (v := v40) (u := .int .u64 ((l[ats[0].toNat].coins - x.coins : Nat) : Int)) (sz := 1) (xs := l) (i := ats[0].toNat) (off := 0) (y' := { l[ats[0].toNat] with coins := l[ats[0].toNat].coins - x.coins }) hS (by first | exact .here | exact .there (.here) | exact .there (.there (.here)) | exact .there (.there (.there (.here))) | exact .there (.there (.there (.there (.here)))) | exact .there (.there (.there (.there (.there (.here))))) | exact .there (.there (.there (.there (.there (.there (.here)))))) | exact .there (.there (.there (.there (.there (.there (.there (.here))))))) | exact .there (.there (.there (.there (.there (.there (.there (.there (.here)))))))) | exact .there (.there (.there (.there (.there (.there (.there (.there (.there (.here))))))))) | exact .there (.there (.there (.there (.there (.there (.there (.there (.there (.there (.here)))))))))) | exact .there (.there (.there (.there (.there (.there (.there (.there (.there (.there (.there (.here))))))))))) | exact .there (.there (.there (.there (.there (.there (.there (.there (.there (.there (.there (.there (.here))))))))))))) ha0 rfl rfl rfl (by decide) (one_int _ _) (Account.set_coins l[ats[0].toNat] (l[ats[0].toNat].coins - x.coins)) ?_)
                      intro w hS; replace hS := hS _ (by first | exact .here | exact .there (.here) | exact .there (.there (.here)) | exact .there (.there (.there (.here))) | exact .there (.there (.there (.there (.here)))) | exact .there (.there (.there (.there (.there (.here))))) | exact .there (.there (.there (.there (.there (.there (.here)))))) | exact .there (.there (.there (.there (.there (.there (.there (.here))))))) | exact .there (.there (.there (.there (.there (.there (.there (.there (.here)))))))) | exact .there (.there (.there (.there (.there (.there (.there (.there (.there (.here))))))))) | exact .there (.there (.there (.there (.there (.there (.there (.there (.there (.there (.here)))))))))) | exact .there (.there (.there (.there (.there (.there (.there (.there (.there (.there (.there (.here))))))))))) | exact .there (.there (.there (.there (.there (.there (.there (.there (.there (.there (.there (.there (.here)))))))))))))
                      refine ML.nil ?_
                      refine thenQ_n (hK47 _ _ ?_)
                      refine WC.draw 12 (.look 0 (.look 1 (.look 2 (.look 3 (.look 4 (.look 5 (.look 6 (.look 7 (.look 8 (.look 9 (.look 10 (.look 11 (.one 12 .nil))))))))))))) (by kernel_rfl) (fun _ _ _ h => h) (fun w1 hw1 => ?_)
                      replace hS := hS.bel hw1
                      have hS1 := hS
                      have hT := St.start w1
                      have haj2 : ats[j].toNat < (l.set ats[0].toNat { l[ats[0].toNat] with coins := l[ats[0].toNat].coins - x.coins }).length := by simpa using haj
                      have hgb : (l.set ats[0].toNat { l[ats[0].toNat] with coins := l[ats[0].toNat].coins - x.coins })[ats[j].toNat] = l[ats[j].toNat] := by rw [List.getElem_set_ne hab]
                      refine ML.look rfl rfl rfl (fun w hw => (by have hS := hS1.bel hw; exact opW.moveV (v := v40) rfl ⟨rfl, rfl⟩)) ?_
                      refine ML.look rfl rfl rfl (fun w hw => (by have hS := hS1.bel hw; exact opW.moveI rfl ⟨rfl, rfl⟩)) ?_
                      refine ML.look rfl rfl rfl (fun w hw => (by have hS := hS1.bel hw; exact opW.moveV (v := v40) rfl ⟨rfl, rfl⟩)) ?_
                      refine ML.look rfl rfl rfl (fun w hw => (by have hS := hS1.bel hw; exact opW.moveI rfl ⟨rfl, rfl⟩)) ?_
                      refine ML.look rfl rfl rfl (fun w hw => (by have hS := hS1.bel hw; exact opW.idxV rfl ((hS.sl (v := v40) (xs := (l.set ats[0].toNat { l[ats[0].toNat] with coins := l[ats[0].toNat].coins - x.coins })) (by first | exact .here | exact .there (.here) | exact .there (.there (.here)) | exact .there (.there (.there (.here))) | exact .there (.there (.there (.there (.here)))) | exact .there (.there (.there (.there (.there (.here))))) | exact .there (.there (.there (.there (.there (.there (.here)))))) | exact .there (.there (.there (.there (.there (.there (.there (.here))))))) | exact .there (.there (.there (.there (.there (.there (.there (.there (.here)))))))) | exact .there (.there (.there (.there (.there (.there (.there (.there (.there (.here))))))))) | exact .there (.there (.there (.there (.there (.there (.there (.there (.there (.there (.here)))))))))) | exact .there (.there (.there (.there (.there (.there (.there (.there (.there (.there (.there (.here))))))))))) | exact .there (.there (.there (.there (.there (.there (.there (.there (.there (.there (.there (.there (.here))))))))))))))) rfl (by omega) ⟨rfl, rfl⟩)) ?_
                      refine ML.look rfl rfl rfl (fun w hw => (by have hS := hS1.bel hw; exact opW.fieldAddr rfl ((hS.sl (v := v40) (xs := (l.set ats[0].toNat { l[ats[0].toNat] with coins := l[ats[0].toNat].coins - x.coins })) (by first | exact .here | exact .there (.here) | exact .there (.there (.here)) | exact .there (.there (.there (.here))) | exact .there (.there (.there (.there (.here)))) | exact .there (.there (.there (.there (.there (.here))))) | exact .there (.there (.there (.there (.there (.there (.here)))))) | exact .there (.there (.there (.there (.there (.there (.there (.here))))))) | exact .there (.there (.there (.there (.there (.there (.there (.there (.here)))))))) | exact .there (.there (.there (.there (.there (.there (.there (.there (.there (.here))))))))) | exact .there (.there (.there (.there (.there (.there (.there (.there (.there (.there (.here)))))))))) | exact .there (.there (.there (.there (.there (.there (.there (.there (.there (.there (.there (.here))))))))))) | exact .there (.there (.there (.there (.there (.there (.there (.there (.there (.there (.there (.there (.here)))))))))))))).isP haj2) ⟨rfl, rfl⟩)) ?_
                      refine ML.look rfl rfl rfl (fun w hw => (by have hS := hS1.bel hw; exact opW.loadV rfl (Ld.pt1 ((hS.sl (v := v40) (xs := (l.set ats[0].toNat { l[ats[0].toNat] with coins := l[ats[0].toNat].coins - x.coins })) (by first | exact .here | exact .there (.here) | exact .there (.there (.here)) | exact .there (.there (.there (.here))) | exact .there (.there (.there (.there (.here)))) | exact .there (.there (.there (.there (.there (.here))))) | exact .there (.there (.there (.there (.there (.there (.here)))))) | exact .there (.there (.there (.there (.there (.there (.there (.here))))))) | exact .there (.there (.there (.there (.there (.there (.there (.there (.here)))))))) | exact .there (.there (.there (.there (.there (.there (.there (.there (.there (.here))))))))) | exact .there (.there (.there (.there (.there (.there (.there (.there (.there (.there (.here)))))))))) | exact .there (.there (.there (.there (.there (.there (.there (.there (.there (.there (.there (.here))))))))))) | exact .there (.there (.there (.there (.there (.there (.there (.there (.there (.there (.there (.there (.here)))))))))))))).isPt haj2) 0 (by rw [hgb]; exact Account.at_coins _)) ⟨rfl, rfl⟩)) ?_
                      refine ML.look rfl rfl rfl (fun w hw => (by have hS := hS1.bel hw; exact opW.fieldAddrB rfl ⟨rfl, rfl⟩)) ?_
                      refine ML.look rfl rfl rfl (fun w hw => (by have hS := hS1.bel hw; exact opW.loadV rfl (hS.ld1 (by first | exact .here | exact .there (.here) | exact .there (.there (.here)) | exact .there (.there (.there (.here))) | exact .there (.there (.there (.there (.here)))) | exact .there (.there (.there (.there (.there (.here))))) | exact .there (.there (.there (.there (.there (.there (.here)))))) | exact .there (.there (.there (.there (.there (.there (.there (.here))))))) | exact .there (.there (.there (.there (.there (.there (.there (.there (.here)))))))) | exact .there (.there (.there (.there (.there (.there (.there (.there (.there (.here))))))))) | exact .there (.there (.there (.there (.there (.there (.there (.there (.there (.there (.here)))))))))) | exact .there (.there (.there (.there (.there (.there (.there (.there (.there (.there (.there (.here))))))))))) | exact .there (.there (.there (.there (.there (.there (.there (.there (.there (.there (.there (.there (.here))))))))))))) (toR_coins x)) ⟨rfl, rfl⟩)) ?_
                      refine ML.look rfl rfl rfl (fun w hw => (by have hS := hS1.bel hw; exact opW.add rfl rfl (nadd (by omega)) ⟨rfl, rfl⟩)) ?_
                      refine ML.look rfl rfl rfl (fun w hw => (by have hS := hS1.bel hw; exact opW.idxV rfl ((hS.sl (v := v40) (xs := (l.set ats[0].toNat { l[ats[0].toNat] with coins := l[ats[0].toNat].coins - x.coins })) (by first | exact .here | exact .there (.here) | exact .there (.there (.here)) | exact .there (.there (.there (.here))) | exact .there (.there (.there (.there (.here)))) | exact .there (.there (.there (.there (.there (.here))))) | exact .there (.there (.there (.there (.there (.there (.here)))))) | exact .there (.there (.there (.there (.there (.there (.there (.here))))))) | exact .there (.there (.there (.there (.there (.there (.there (.there (.here)))))))) | exact .there (.there (.there (.there (.there (.there (.there (.there (.there (.here))))))))) | exact .there (.there (.there (.there (.there (.there (.there (.there (.there (.there (.here)))))))))) | exact .there (.there (.there (.there (.there (.there (.there (.there (.there (.there (.there (.here))))))))))) | exact .there (.there (.there (.there (.there (.there (.there (.there (.there (.there (.there (.there (.here))))))))))))))) rfl (by omega) ⟨rfl, rfl⟩)) ?_
                      refine ML.look rfl rfl rfl (fun w hw => (by have hS := hS1.bel hw; exact opW.fieldAddr rfl ((hS.sl (v := v40) (xs := (l.set ats[0].toNat { l[ats[0].toNat] with coins := l[ats[0].toNat].coins - x.coins })) (by first | exact .here | exact .there (.here) | exact .there (.there (.here)) | exact .there (.there (.there (.here))) | exact .there (.there (.there (.there (.here)))) | exact .there (.there (.there (.there (.there (.here))))) | exact .there (.there (.there (.there (.there (.there (.here)))))) | exact .there (.there (.there (.there (.there (.there (.there (.here))))))) | exact .there (.there (.there (.there (.there (.there (.there (.there (.here)))))))) | exact .there (.there (.there (.there (.there (.there (.there (.there (.there (.here))))))))) | exact .there (.there (.there (.there (.there (.there (.there (.there (.there (.there (.here)))))))))) | exact .there (.there (.there (.there (.there (.there (.there (.there (.there (.there (.there (.here))))))))))) | exact .there (.there (.there (.there (.there (.there (.there (.there (.there (.there (.there (.there (.here)))))))))))))).isP haj2) ⟨rfl, rfl⟩)) ?_
                      refine ML.put0 rfl rfl rfl (opW.storeOwn (v := v40) (u := .int .u64 ((l[ats[j].toNat].coins + x.coins : Nat) : Int)) (sz := 1) (xs := (l.set ats[0].toNat { l[ats[0].toNat] with coins := l[ats[0].toNat].coins - x.coins })) (i := ats[j].toNat) (off := 0) (y' := { l[ats[j].toNat] with coins := l[ats[j].toNat].coins + x.coins }) hS (by first | exact .here | exact .there (.here) | exact .there (.there (.here)) | exact .there (.there (.there (.here))) | exact .there (.there (.there (.there (.here)))) | exact .there (.there (.there (.there (.there (.here))))) | exact .there (.there (.there (.there (.there (.there (.here)))))) | exact .there (.there (.there (.there (.there (.there (.there (.here))))))) | exact .there (.there (.there (.there (.there (.there (.there (.there (.here)))))))) | exact .there (.there (.there (.there (.there (.there (.there (.there (.there (.here))))))))) | exact .there (.there (.there (.there (.there (.there (.there (.there (.there (.there (.here)))))))))) | exact .there (.there (.there (.there (.there (.there (.there (.there (.there (.there (.there (.here))))))))))) | exact .there (.there (.there (.there (.there (.there (.there (.there (.there (.there (.there (.there (.here))))))))))))) haj2 rfl rfl rfl (by decide) (one_int _ _) (by rw [hgb]; exact Account.set_coins l[ats[j].toNat] (l[ats[j].toNat].coins + x.coins)) ?_)
                      intro w hS; replace hS := hS _ (by first | exact .here | exact .there (.here) | exact .there (.there (.here)) | exact .there (.there (.there (.here))) | exact .there (.there (.there (.there (.here)))) | exact .there (.there (.there (.there (.there (.here))))) | exact .there (.there (.there (.there (.there (.there (.here)))))) | exact .there (.there (.there (.there (.there (.there (.there (.here))))))) | exact .there (.there (.there (.there (.there (.there (.there (.there (.here)))))))) | exact .there (.there (.there (.there (.there (.there (.there (.there (.there (.here))))))))) | exact .there (.there (.there (.there (.there (.there (.there (.there (.there (.there (.here)))))))))) | exact .there (.there (.there (.there (.there (.there (.there (.there (.there (.there (.there (.here))))))))))) | exact .there (.there (.there (.there (.there (.there (.there (.there (.there (.there (.there (.there (.here)))))))))))))
                      refine ML.nil ?_
                      refine blockQ_n ?_
                      refine thenQ_n (hK14 _ _ ?_)
                      refine WC.seq (fun K48 hK48 => ?_)
                      refine WC.draw 6 (.look 0 (.look 1 (.look 2 (.look 3 (.look 4 (.look 5 .nil)))))) (by kernel_rfl) (fun _ _ _ h => h) (fun w1 hw1 => ?_)
                      replace hS := hS.bel hw1
                      have hS1 := hS
                      have hT := St.start w1
                      refine ML.look rfl rfl rfl (fun w hw => (by have hS := hS1.bel hw; exact opW.moveV (v := v40) rfl ⟨rfl, rfl⟩)) ?_
                      refine ML.look rfl rfl rfl (fun w hw => (by have hS := hS1.bel hw; exact opW.fieldAddrB rfl ⟨rfl, rfl⟩)) ?_
                      refine ML.look rfl rfl rfl (fun w hw => (by have hS := hS1.bel hw; exact opW.loadV rfl (hS.ld1 (by first | exact .here | exact .there (.here) | exact .there (.there (.here)) | exact .there (.there (.there (.here))) | exact .there (.there (.there (.there (.here)))) | exact .there (.there (.there (.there (.there (.here))))) | exact .there (.there (.there (.there (.there (.there (.here)))))) | exact .there (.there (.there (.there (.there (.there (.there (.here))))))) | exact .there (.there (.there (.there (.there (.there (.there (.there (.here)))))))) | exact .there (.there (.there (.there (.there (.there (.there (.there (.there (.here))))))))) | exact .there (.there (.there (.there (.there (.there (.there (.there (.there (.there (.here)))))))))) | exact .there (.there (.there (.there (.there (.there (.there (.there (.there (.there (.there (.here))))))))))) | exact .there (.there (.there (.there (.there (.there (.there (.there (.there (.there (.there (.there (.here))))))))))))) (toR_space x)) ⟨rfl, rfl⟩)) ?_
                      refine ML.look rfl rfl rfl (fun w hw => (by have hS := hS1.bel hw; exact opW.assignV (v := v40) rfl ⟨rfl, rfl⟩)) ?_
                      refine ML.look rfl rfl rfl (fun w hw => (by have hS := hS1.bel hw; exact opW.assignI rfl ⟨rfl, rfl⟩)) ?_
                      refine ML.look rfl rfl rfl (fun w hw => (by have hS := hS1.bel hw; exact opW.assignI rfl ⟨rfl, rfl⟩)) ?_
                      refine ML.nil ?_
                      refine thenQ_n (hK48 _ _ ?_)
                      refine WC.ret ?_
                      refine bodyQ_ret (.tmpV (v := v40) rfl (.tmpI rfl (.tmpI rfl .nil))) ?_
                      have he : actE x l[ats[0].toNat] l[ats[j].toNat] (decide (ats[0].toNat = ats[j].toNat)) = 0 := by rw [actE2 htg]; unfold mvE; rw [if_neg (by rw [hr11]; decide), if_neg (by omega), if_neg (by rw [decide_eq_false hab]; decide), if_neg (by omega)]
                      rw [hact, if_neg (fun e => e he), actL2 htg]
                      unfold mvL
                      rw [if_neg hab]
                      exact ⟨_, rfl, hS.own_new (by first | exact .here | exact .there (.here) | exact .there (.there (.here)) | exact .there (.there (.there (.here))) | exact .there (.there (.there (.there (.here)))) | exact .there (.there (.there (.there (.there (.here))))) | exact .there (.there (.there (.there (.there (.there (.here)))))) | exact .there (.there (.there (.there (.there (.there (.there (.here))))))) | exact .there (.there (.there (.there (.there (.there (.there (.there (.here)))))))) | exact .there (.there (.there (.there (.there (.there (.there (.there (.there (.here))))))))) | exact .there (.there (.there (.there (.there (.there (.there (.there (.there (.there (.here)))))))))) | exact .there (.there (.there (.there (.there (.there (.there (.there (.there (.there (.there (.here))))))))))) | exact .there (.there (.there (.there (.there (.there (.there (.there (.there (.there (.there (.there (.here))))))))))))), hS.old⟩
                  ·
                    have hr13 := hc13
                    try simp only [decide_eq_true_eq, decide_eq_false_iff_not, Bool.and_eq_true, Bool.or_eq_true, Bool.and_eq_false_iff, Bool.or_eq_false_iff, Bool.not_eq_true', Bool.not_eq_false', Int.not_lt, Int.not_le] at hc13
                    have hab : ats[0].toNat = ats[j].toNat := by omega
                    refine WC.skip ?_
                    refine blockQ_n ?_
                    refine thenQ_n (hK14 _ _ ?_)
                    refine WC.seq (fun K49 hK49 => ?_)
                    refine WC.draw 6 (.look 0 (.look 1 (.look 2 (.look 3 (.look 4 (.look 5 .nil)))))) (by kernel_rfl) (fun _ _ _ h => h) (fun w1 hw1 => ?_)
                    replace hS := hS.bel hw1
                    have hS1 := hS
                    have hT := St.start w1
                    refine ML.look rfl rfl rfl (fun w hw => (by have hS := hS1.bel hw; exact opW.moveV (v := v40) rfl ⟨rfl, rfl⟩)) ?_
                    refine ML.look rfl rfl rfl (fun w hw => (by have hS := hS1.bel hw; exact opW.fieldAddrB rfl ⟨rfl, rfl⟩)) ?_
                    refine ML.look rfl rfl rfl (fun w hw => (by have hS := hS1.bel hw; exact opW.loadV rfl (hS.ld1 (by first | exact .here | exact .there (.here) | exact .there (.there (.here)) | exact .there (.there (.there (.here))) | exact .there (.there (.there (.there (.here)))) | exact .there (.there (.there (.there (.there (.here))))) | exact .there (.there (.there (.there (.there (.there (.here)))))) | exact .there (.there (.there (.there (.there (.there (.there (.here))))))) | exact .there (.there (.there (.there (.there (.there (.there (.there (.here)))))))) | exact .there (.there (.there (.there (.there (.there (.there (.there (.there (.here))))))))) | exact .there (.there (.there (.there (.there (.there (.there (.there (.there (.there (.here)))))))))) | exact .there (.there (.there (.there (.there (.there (.there (.there (.there (.there (.there (.here))))))))))) | exact .there (.there (.there (.there (.there (.there (.there (.there (.there (.there (.there (.there (.here))))))))))))) (toR_space x)) ⟨rfl, rfl⟩)) ?_
                    refine ML.look rfl rfl rfl (fun w hw => (by have hS := hS1.bel hw; exact opW.assignV (v := v40) rfl ⟨rfl, rfl⟩)) ?_
                    refine ML.look rfl rfl rfl (fun w hw => (by have hS := hS1.bel hw; exact opW.assignI rfl ⟨rfl, rfl⟩)) ?_
                    refine ML.look rfl rfl rfl (fun w hw => (by have hS := hS1.bel hw; exact opW.assignI rfl ⟨rfl, rfl⟩)) ?_
                    refine ML.nil ?_
                    refine thenQ_n (hK49 _ _ ?_)
                    refine WC.ret ?_
                    refine bodyQ_ret (.tmpV (v := v40) rfl (.tmpI rfl (.tmpI rfl .nil))) ?_
                    have he : actE x l[ats[0].toNat] l[ats[j].toNat] (decide (ats[0].toNat = ats[j].toNat)) = 0 := by rw [actE2 htg]; unfold mvE; rw [if_neg (by rw [hr11]; decide), if_neg (by omega), if_pos (decide_eq_true hab)]
                    rw [hact, if_neg (fun e => e he), actL2 htg]
                    unfold mvL
                    rw [if_pos hab]
                    exact ⟨_, rfl, hS.own_new (by first | exact .here | exact .there (.here) | exact .there (.there (.here)) | exact .there (.there (.there (.here))) | exact .there (.there (.there (.there (.here)))) | exact .there (.there (.there (.there (.there (.here))))) | exact .there (.there (.there (.there (.there (.there (.here)))))) | exact .there (.there (.there (.there (.there (.there (.there (.here))))))) | exact .there (.there (.there (.there (.there (.there (.there (.there (.here)))))))) | exact .there (.there (.there (.there (.there (.there (.there (.there (.there (.here))))))))) | exact .there (.there (.there (.there (.there (.there (.there (.there (.there (.there (.here)))))))))) | exact .there (.there (.there (.there (.there (.there (.there (.there (.there (.there (.there (.here))))))))))) | exact .there (.there (.there (.there (.there (.there (.there (.there (.there (.there (.there (.there (.here))))))))))))), hS.old⟩
            ·
              have hr10 := hc10
              try simp only [decide_eq_true_eq, decide_eq_false_iff_not, Bool.and_eq_true, Bool.or_eq_true, Bool.and_eq_false_iff, Bool.or_eq_false_iff, Bool.not_eq_true', Bool.not_eq_false', Int.not_lt, Int.not_le] at hc10
              have htg : x.tag = 8 := by omega
              refine WC.seq (fun K50 hK50 => ?_)
              refine WC.seq (fun K51 hK51 => ?_)
              refine WC.region ?_
              refine WL.op rfl (opW.moveV (v := v40) rfl ?_)
              refine WL.op rfl (opW.moveI rfl ?_)
              refine WL.op rfl (opW.idxV rfl ((hS.sl (v := v40) (xs := l) (by first | exact .here | exact .there (.here) | exact .there (.there (.here)) | exact .there (.there (.there (.here))) | exact .there (.there (.there (.there (.here)))) | exact .there (.there (.there (.there (.there (.here))))) | exact .there (.there (.there (.there (.there (.there (.here)))))) | exact .there (.there (.there (.there (.there (.there (.there (.here))))))) | exact .there (.there (.there (.there (.there (.there (.there (.there (.here)))))))) | exact .there (.there (.there (.there (.there (.there (.there (.there (.there (.here))))))))) | exact .there (.there (.there (.there (.there (.there (.there (.there (.there (.there (.here)))))))))) | exact .there (.there (.there (.there (.there (.there (.there (.there (.there (.there (.there (.here))))))))))) | exact .there (.there (.there (.there (.there (.there (.there (.there (.there (.there (.there (.there (.here))))))))))))))) rfl (by omega) ?_)
              refine WL.op rfl (opW.loadV rfl (((hS.sl (v := v40) (xs := l) (by first | exact .here | exact .there (.here) | exact .there (.there (.here)) | exact .there (.there (.there (.here))) | exact .there (.there (.there (.there (.here)))) | exact .there (.there (.there (.there (.there (.here))))) | exact .there (.there (.there (.there (.there (.there (.here)))))) | exact .there (.there (.there (.there (.there (.there (.there (.here))))))) | exact .there (.there (.there (.there (.there (.there (.there (.there (.here)))))))) | exact .there (.there (.there (.there (.there (.there (.there (.there (.there (.here))))))))) | exact .there (.there (.there (.there (.there (.there (.there (.there (.there (.there (.here)))))))))) | exact .there (.there (.there (.there (.there (.there (.there (.there (.there (.there (.there (.here))))))))))) | exact .there (.there (.there (.there (.there (.there (.there (.there (.there (.there (.there (.there (.here)))))))))))))).isPt ha0).ldA (Enc.size_eq l[ats[0].toNat])) ?_)
              refine WL.op rfl (opW.call (rplain_ok _ l[ats[0].toNat]) rfl ?_)
              rintro _ w ⟨rfl, hw⟩; replace hS := hS.bel hw
              refine WL.op rfl (opW.not rfl ?_)
              refine WL.nil ?_
              refine thenQ_n (hK51 _ _ ?_)
              refine WC.cond _ rfl (fun hc15 => ?_) (fun hc15 => ?_)
              ·
                have hr15 := hc15
                try simp only [decide_eq_true_eq, decide_eq_false_iff_not, Bool.and_eq_true, Bool.or_eq_true, Bool.and_eq_false_iff, Bool.or_eq_false_iff, Bool.not_eq_true', Bool.not_eq_false', Int.not_lt, Int.not_le] at hc15
                refine WC.seq (fun K52 hK52 => ?_)
                refine WC.region ?_
                refine WL.op rfl (opW.assignV (v := .slice none 0 0) rfl ?_)
                refine WL.op rfl (opW.assignI rfl ?_)
                refine WL.op rfl (opW.assignI rfl ?_)
                refine WL.nil ?_
                refine thenQ_n (hK52 _ _ ?_)
                refine WC.ret ?_
                refine thenQ_r ?_
                refine blockQ_r ?_
                refine thenQ_r ?_
                refine bodyQ_ret (.tmpV (v := .slice none 0 0) rfl (.tmpI rfl (.tmpI rfl .nil))) ?_
                have he : actE x l[ats[0].toNat] l[ats[j].toNat] (decide (ats[0].toNat = ats[j].toNat)) = 12 := by rw [actE8 htg]; unfold alE; rw [if_pos hr15]
                rw [hact, if_pos (by rw [he]; decide), he]
                exact ⟨_, rfl, New.nil _ _ _, hS.old⟩
              ·
                have hr15 := hc15
                try simp only [decide_eq_true_eq, decide_eq_false_iff_not, Bool.and_eq_true, Bool.or_eq_true, Bool.and_eq_false_iff, Bool.or_eq_false_iff, Bool.not_eq_true', Bool.not_eq_false', Int.not_lt, Int.not_le] at hc15
                refine WC.skip ?_
                refine thenQ_n (hK50 _ _ ?_)
                refine WC.seq (fun K53 hK53 => ?_)
                refine WC.seq (fun K54 hK54 => ?_)
                refine WC.region ?_
                refine WL.op rfl (opW.fieldAddrB rfl ?_)
                refine WL.op rfl (opW.loadV rfl (hS.ld1 (by first | exact .here | exact .there (.here) | exact .there (.there (.here)) | exact .there (.there (.there (.here))) | exact .there (.there (.there (.there (.here)))) | exact .there (.there (.there (.there (.there (.here))))) | exact .there (.there (.there (.there (.there (.there (.here)))))) | exact .there (.there (.there (.there (.there (.there (.there (.here))))))) | exact .there (.there (.there (.there (.there (.there (.there (.there (.here)))))))) | exact .there (.there (.there (.there (.there (.there (.there (.there (.there (.here))))))))) | exact .there (.there (.there (.there (.there (.there (.there (.there (.there (.there (.here)))))))))) | exact .there (.there (.there (.there (.there (.there (.there (.there (.there (.there (.there (.here))))))))))) | exact .there (.there (.there (.there (.there (.there (.there (.there (.there (.there (.there (.there (.here))))))))))))) (toR_space x)) ?_)
                refine WL.op rfl (opW.gtr rfl rfl ?_)
                refine WL.nil ?_
                refine thenQ_n (hK54 _ _ ?_)
                refine WC.cond _ rfl (fun hc16 => ?_) (fun hc16 => ?_)
                ·
                  have hr16 := hc16
                  try simp only [decide_eq_true_eq, decide_eq_false_iff_not, Bool.and_eq_true, Bool.or_eq_true, Bool.and_eq_false_iff, Bool.or_eq_false_iff, Bool.not_eq_true', Bool.not_eq_false', Int.not_lt, Int.not_le] at hc16
                  refine WC.seq (fun K55 hK55 => ?_)
                  refine WC.region ?_
                  refine WL.op rfl (opW.assignV (v := .slice none 0 0) rfl ?_)
                  refine WL.op rfl (opW.assignI rfl ?_)
                  refine WL.op rfl (opW.assignI rfl ?_)
                  refine WL.nil ?_
                  refine thenQ_n (hK55 _ _ ?_)
                  refine WC.ret ?_
                  refine thenQ_r ?_
                  refine blockQ_r ?_
                  refine thenQ_r ?_
                  refine bodyQ_ret (.tmpV (v := .slice none 0 0) rfl (.tmpI rfl (.tmpI rfl .nil))) ?_
                  have he : actE x l[ats[0].toNat] l[ats[j].toNat] (decide (ats[0].toNat = ats[j].toNat)) = 3 := by rw [actE8 htg]; unfold alE; rw [if_neg (by rw [hr15]; decide), if_pos hc16]
                  rw [hact, if_pos (by rw [he]; decide), he]
                  exact ⟨_, rfl, New.nil _ _ _, hS.old⟩
                ·
                  have hr16 := hc16
                  try simp only [decide_eq_true_eq, decide_eq_false_iff_not, Bool.and_eq_true, Bool.or_eq_true, Bool.and_eq_false_iff, Bool.or_eq_false_iff, Bool.not_eq_true', Bool.not_eq_false', Int.not_lt, Int.not_le] at hc16
                  refine WC.skip ?_
                  refine thenQ_n (hK53 _ _ ?_)
                  refine WC.region ?_
                  refine WL.op rfl (opW.moveV (v := v40) rfl ?_)
                  refine WL.op rfl (opW.moveI rfl ?_)
                  refine WL.op rfl (opW.fieldAddrB rfl ?_)
                  refine WL.op rfl (opW.loadV rfl (hS.ld1 (by first | exact .here | exact .there (.here) | exact .there (.there (.here)) | exact .there (.there (.there (.here))) | exact .there (.there (.there (.there (.here)))) | exact .there (.there (.there (.there (.there (.here))))) | exact .there (.there (.there (.there (.there (.there (.here)))))) | exact .there (.there (.there (.there (.there (.there (.there (.here))))))) | exact .there (.there (.there (.there (.there (.there (.there (.there (.here)))))))) | exact .there (.there (.there (.there (.there (.there (.there (.there (.there (.here))))))))) | exact .there (.there (.there (.there (.there (.there (.there (.there (.there (.there (.here)))))))))) | exact .there (.there (.there (.there (.there (.there (.there (.there (.there (.there (.there (.here))))))))))) | exact .there (.there (.there (.there (.there (.there (.there (.there (.there (.there (.there (.there (.here))))))))))))) (toR_space x)) ?_)
                  refine WL.op rfl (opW.idxV rfl ((hS.sl (v := v40) (xs := l) (by first | exact .here | exact .there (.here) | exact .there (.there (.here)) | exact .there (.there (.there (.here))) | exact .there (.there (.there (.there (.here)))) | exact .there (.there (.there (.there (.there (.here))))) | exact .there (.there (.there (.there (.there (.there (.here)))))) | exact .there (.there (.there (.there (.there (.there (.there (.here))))))) | exact .there (.there (.there (.there (.there (.there (.there (.there (.here)))))))) | exact .there (.there (.there (.there (.there (.there (.there (.there (.there (.here))))))))) | exact .there (.there (.there (.there (.there (.there (.there (.there (.there (.there (.here)))))))))) | exact .there (.there (.there (.there (.there (.there (.there (.there (.there (.there (.there (.here))))))))))) | exact .there (.there (.there (.there (.there (.there (.there (.there (.there (.there (.there (.there (.here))))))))))))))) rfl (by omega) ?_)
                  refine WL.op rfl (opW.fieldAddr rfl ((hS.sl (v := v40) (xs := l) (by first | exact .here | exact .there (.here) | exact .there (.there (.here)) | exact .there (.there (.there (.here))) | exact .there (.there (.there (.there (.here)))) | exact .there (.there (.there (.there (.there (.here))))) | exact .there (.there (.there (.there (.there (.there (.here)))))) | exact .there (.there (.there (.there (.there (.there (.there (.here))))))) | exact .there (.there (.there (.there (.there (.there (.there (.there (.here)))))))) | exact .there (.there (.there (.there (.there (.there (.there (.there (.there (.here))))))))) | exact .there (.there (.there (.there (.there (.there (.there (.there (.there (.there (.here)))))))))) | exact .there (.there (.there (.there (.there (.there (.there (.there (.there (.there (.there (.here))))))))))) | exact .there (.there (.there (.there (.there (.there (.there (.there (.there (.there (.there (.there (.here)))))))))))))).isP ha0) ?_)
                  refine WL.op0 (opW.storeOwn (v := v40) (u := .int .u64 ((x.space : Nat) : Int)) (sz := 1) (xs := l) (i := ats[0].toNat) (off := 33) (y' := { l[ats[0].toNat] with space := x.space }) hS (by first | exact .here | exact .there (.here) | exact .there (.there (.here)) | exact .there (.there (.there (.here))) | exact .there (.there (.there (.there (.here)))) | exact .there (.there (.there (.there (.there (.here))))) | exact .there (.there (.there (.there (.there (.there (.here)))))) | exact .there (.there (.there (.there (.there (.there (.there (.here))))))) | exact .there (.there (.there (.there (.there (.there (.there (.there (.here)))))))) | exact .there (.there (.there (.there (.there (.there (.there (.there (.there (.here))))))))) | exact .there (.there (.there (.there (.there (.there (.there (.there (.there (.there (.here)))))))))) | exact .there (.there (.there (.there (.there (.there (.there (.there (.there (.there (.there (.here))))))))))) | exact .there (.there (.there (.there (.there (.there (.there (.there (.there (.there (.there (.there (.here))))))))))))) ha0 rfl rfl rfl (by decide) (one_int _ _) (Account.set_space l[ats[0].toNat] (x.space)) ?_)
                  intro w hS; replace hS := hS _ (by first | exact .here | exact .there (.here) | exact .there (.there (.here)) | exact .there (.there (.there (.here))) | exact .there (.there (.there (.there (.here)))) | exact .there (.there (.there (.there (.there (.here))))) | exact .there (.there (.there (.there (.there (.there (.here)))))) | exact .there (.there (.there (.there (.there (.there (.there (.here))))))) | exact .there (.there (.there (.there (.there (.there (.there (.there (.here)))))))) | exact .there (.there (.there (.there (.there (.there (.there (.there (.there (.here))))))))) | exact .there (.there (.there (.there (.there (.there (.there (.there (.there (.there (.here)))))))))) | exact .there (.there (.there (.there (.there (.there (.there (.there (.there (.there (.there (.here))))))))))) | exact .there (.there (.there (.there (.there (.there (.there (.there (.there (.there (.there (.there (.here)))))))))))))
                  refine WL.nil ?_
                  refine blockQ_n ?_
                  refine thenQ_n (hK14 _ _ ?_)
                  refine WC.seq (fun K56 hK56 => ?_)
                  refine WC.draw 6 (.look 0 (.look 1 (.look 2 (.look 3 (.look 4 (.look 5 .nil)))))) (by kernel_rfl) (fun _ _ _ h => h) (fun w1 hw1 => ?_)
                  replace hS := hS.bel hw1
                  have hS1 := hS
                  have hT := St.start w1
                  refine ML.look rfl rfl rfl (fun w hw => (by have hS := hS1.bel hw; exact opW.moveV (v := v40) rfl ⟨rfl, rfl⟩)) ?_
                  refine ML.look rfl rfl rfl (fun w hw => (by have hS := hS1.bel hw; exact opW.fieldAddrB rfl ⟨rfl, rfl⟩)) ?_
                  refine ML.look rfl rfl rfl (fun w hw => (by have hS := hS1.bel hw; exact opW.loadV rfl (hS.ld1 (by first | exact .here | exact .there (.here) | exact .there (.there (.here)) | exact .there (.there (.there (.here))) | exact .there (.there (.there (.there (.here)))) | exact .there (.there (.there (.there (.there (.here))))) | exact .there (.there (.there (.there (.there (.there (.here)))))) | exact .there (.there (.there (.there (.there (.there (.there (.here))))))) | exact .there (.there (.there (.there (.there (.there (.there (.there (.here)))))))) | exact .there (.there (.there (.there (.there (.there (.there (.there (.there (.here))))))))) | exact .there (.there (.there (.there (.there (.there (.there (.there (.there (.there (.here)))))))))) | exact .there (.there (.there (.there (.there (.there (.there (.there (.there (.there (.there (.here))))))))))) | exact .there (.there (.there (.there (.there (.there (.there (.there (.there (.there (.there (.there (.here))))))))))))) (toR_space x)) ⟨rfl, rfl⟩)) ?_
                  refine ML.look rfl rfl rfl (fun w hw => (by have hS := hS1.bel hw; exact opW.assignV (v := v40) rfl ⟨rfl, rfl⟩)) ?_
                  refine ML.look rfl rfl rfl (fun w hw => (by have hS := hS1.bel hw; exact opW.assignI rfl ⟨rfl, rfl⟩)) ?_
                  refine ML.look rfl rfl rfl (fun w hw => (by have hS := hS1.bel hw; exact opW.assignI rfl ⟨rfl, rfl⟩)) ?_
                  refine ML.nil ?_
                  refine thenQ_n (hK56 _ _ ?_)
                  refine WC.ret ?_
                  refine bodyQ_ret (.tmpV (v := v40) rfl (.tmpI rfl (.tmpI rfl .nil))) ?_
                  have he : actE x l[ats[0].toNat] l[ats[j].toNat] (decide (ats[0].toNat = ats[j].toNat)) = 0 := by rw [actE8 htg]; unfold alE; rw [if_neg (by rw [hr15]; decide), if_neg (by omega)]
                  rw [hact, if_neg (fun e => e he), actL8 htg]
                  exact ⟨_, rfl, hS.own_new (by first | exact .here | exact .there (.here) | exact .there (.there (.here)) | exact .there (.there (.there (.here))) | exact .there (.there (.there (.there (.here)))) | exact .there (.there (.there (.there (.there (.here))))) | exact .there (.there (.there (.there (.there (.there (.here)))))) | exact .there (.there (.there (.there (.there (.there (.there (.here))))))) | exact .there (.there (.there (.there (.there (.there (.there (.there (.here)))))))) | exact .there (.there (.there (.there (.there (.there (.there (.there (.there (.here))))))))) | exact .there (.there (.there (.there (.there (.there (.there (.there (.there (.there (.here)))))))))) | exact .there (.there (.there (.there (.there (.there (.there (.there (.there (.there (.there (.here))))))))))) | exact .there (.there (.there (.there (.there (.there (.there (.there (.there (.there (.there (.there (.here))))))))))))), hS.old⟩

end Go.Fer
