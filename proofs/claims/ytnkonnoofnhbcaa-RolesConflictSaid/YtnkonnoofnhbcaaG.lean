/- RolesCount -/
import Derived.Test.YtnkonnoofnhbcaaF
set_option linter.all false
namespace Go.Fer
open Go Go.Proofs Go.RowKit

theorem countP_step {α : Type} {l : List α} {p : α → Bool} {k : Nat} (hk : k < l.length) : (l.take (k + 1)).countP p = (l.take k).countP p + (if p l[k] = true then 1 else 0) := by
  rw [List.take_succ_eq_append_getElem hk, List.countP_append, List.countP_singleton]
theorem fix_signs (l : List Role) : (l.map fixR).countP Role.signs = l.countP Role.signs := by rw [List.countP_map]; rfl
theorem OfIs.own {w0 w' : World} {m : Message} {keys ws rs : List Key} {v : Value} {e : Int} (h : OfIs w0 w' m keys ws rs v e) :
    ∃ ys : List Role, New w0 w' v 41 ys ∧ ((((allL m keys ws rs).map Role.key).Nodup ∧ e = 0 ∧ ys = (allL m keys ws rs).map fixR) ∨ (¬ ((allL m keys ws rs).map Role.key).Nodup ∧ e = 9 ∧ ys = [])) := by
  rcases h with ⟨h1, h2, h3⟩ | ⟨h1, h2, rfl⟩
  · exact ⟨_, h3, .inl ⟨h1, h2, rfl⟩⟩
  · exact ⟨[], New.nil _ _ _, .inr ⟨h1, h2, rfl⟩⟩
theorem bool_pick {a b c d : Bool} (h : (a && !b) = c) (hb : b = !d) : (a && d) = c := by subst hb; simpa using h

theorem count_law (w0 : World) (m : Message) (v1 v2 : Value) (ws rs : List Key) (hm : m.ok w0) (hws : SlR w0 v1 ws) (hrs : SlR w0 v2 rs) : Ret Try.prog 4 #[.agg (Enc.enc m), v1, v2] w0 (fun r w' => r = .bool true ∧ Bel w0 w') := by
  refine Ret.enter (args := [.agg (Enc.enc m), v1, v2]) Try.func4 rfl Try.ntmps4 Try.results4 rfl ?_
  have hS := St.start w0
  have hm0 := hm
  obtain ⟨_, ⟨keys, hkeys, _⟩, _⟩ := hm0
  refine WC.seq (fun K1 hK1 => ?_)
  refine WC.region ?_
  refine WL.op rfl (opW.boxA hS rfl ?_)
  intro b3 w _ hS
  refine WL.op rfl (opW.assignB rfl ?_)
  refine WL.nil ?_
  refine thenQ_n (hK1 _ _ ?_)
  refine WC.seq (fun K2 hK2 => ?_)
  refine WC.seq (fun K3 hK3 => ?_)
  refine WC.region ?_
  refine WL.op rfl (opW.loadV rfl (hS.ldA (cs := Enc.enc m) (by first | exact .here | exact .there (.here) | exact .there (.there (.here)) | exact .there (.there (.there (.here))) | exact .there (.there (.there (.there (.here)))) | exact .there (.there (.there (.there (.there (.here))))) | exact .there (.there (.there (.there (.there (.there (.here)))))) | exact .there (.there (.there (.there (.there (.there (.there (.here))))))) | exact .there (.there (.there (.there (.there (.there (.there (.there (.here)))))))) | exact .there (.there (.there (.there (.there (.there (.there (.there (.there (.here))))))))) | exact .there (.there (.there (.there (.there (.there (.there (.there (.there (.there (.here)))))))))) | exact .there (.there (.there (.there (.there (.there (.there (.there (.there (.there (.there (.here))))))))))) | exact .there (.there (.there (.there (.there (.there (.there (.there (.there (.there (.there (.there (.here))))))))))))) (Enc.size_eq m)) ?_)
  refine WL.op rfl (opW.moveV (v := v1) rfl ?_)
  refine WL.op rfl (opW.moveV (v := v2) rfl ?_)
  refine WL.op rfl (opW.call (great7_ok _ m _ _ keys ws rs (hm.bel hS.old) (hkeys.bel hS.old) (hws.bel hS.old) (hrs.bel hS.old)) rfl ?_)
  rintro _ w ⟨bb, rfl, hbb, hw⟩; replace hS := hS.bel hw
  refine WL.nil ?_
  refine thenQ_n (hK3 _ _ ?_)
  refine WC.cond _ rfl (fun hc0 => ?_) (fun hc0 => ?_)
  ·
    have hr0 := hc0
    try simp only [decide_eq_true_eq, decide_eq_false_iff_not, Bool.and_eq_true, Bool.or_eq_true, Bool.and_eq_false_iff, Bool.or_eq_false_iff, Bool.not_eq_true', Bool.not_eq_false', Int.not_lt, Int.not_le] at hc0
    refine WC.seq (fun K4 hK4 => ?_)
    refine WC.region ?_
    refine WL.op rfl (opW.call (lives7 _) rfl ?_)
    rintro _ w ⟨rfl, hw⟩; replace hS := hS.bel hw
    refine WL.op rfl (opW.assignB rfl ?_)
    refine WL.nil ?_
    refine thenQ_n (hK4 _ _ ?_)
    refine WC.ret ?_
    refine thenQ_r ?_
    refine bodyQ_ret (.tmpB rfl .nil) ?_
    exact ⟨rfl, hS.old⟩
  ·
    have hr0 := hc0
    try simp only [decide_eq_true_eq, decide_eq_false_iff_not, Bool.and_eq_true, Bool.or_eq_true, Bool.and_eq_false_iff, Bool.or_eq_false_iff, Bool.not_eq_true', Bool.not_eq_false', Int.not_lt, Int.not_le] at hc0
    obtain ⟨l1, l2, l3⟩ := hbb hr0
    have u1 := u8_lt m.header.signers
    have u2 := u8_lt m.header.readSigned
    have u3 := u8_lt m.header.readOther
    refine WC.skip ?_
    refine thenQ_n (hK2 _ _ ?_)
    refine WC.seq (fun K5 hK5 => ?_)
    refine WC.region ?_
    refine WL.op rfl (opW.loadV rfl (hS.ldA (cs := Enc.enc m) (by first | exact .here | exact .there (.here) | exact .there (.there (.here)) | exact .there (.there (.there (.here))) | exact .there (.there (.there (.there (.here)))) | exact .there (.there (.there (.there (.there (.here))))) | exact .there (.there (.there (.there (.there (.there (.here)))))) | exact .there (.there (.there (.there (.there (.there (.there (.here))))))) | exact .there (.there (.there (.there (.there (.there (.there (.there (.here)))))))) | exact .there (.there (.there (.there (.there (.there (.there (.there (.there (.here))))))))) | exact .there (.there (.there (.there (.there (.there (.there (.there (.there (.there (.here)))))))))) | exact .there (.there (.there (.there (.there (.there (.there (.there (.there (.there (.there (.here))))))))))) | exact .there (.there (.there (.there (.there (.there (.there (.there (.there (.there (.there (.there (.here))))))))))))) (Enc.size_eq m)) ?_)
    refine WL.op rfl (opW.moveV (v := v1) rfl ?_)
    refine WL.op rfl (opW.moveV (v := v2) rfl ?_)
    refine WL.op rfl (opW.call (of_ok _ m _ _ keys ws rs (hkeys.bel hS.old) (hws.bel hS.old) (hrs.bel hS.old) (by omega) (by omega) (by omega)) rfl ?_)
    rintro _ w2 ⟨v26, e26, rfl, hof, hwo⟩
    obtain ⟨ys, hnew, hys⟩ := hof.own
    replace hS := hS.newOwn hwo hnew.1 hnew.2
    refine WL.op rfl (opW.moveV (v := .tuple #[v26, .int .i64 e26]) rfl ?_)
    refine WL.op rfl (opW.extract rfl rfl ?_)
    refine WL.op rfl (opW.extract rfl rfl ?_)
    refine WL.op rfl (opW.assignV (v := v26) rfl ?_)
    refine WL.op rfl (opW.assignI rfl ?_)
    refine WL.nil ?_
    refine thenQ_n (hK5 _ _ ?_)
    refine WC.seq (fun K6 hK6 => ?_)
    refine WC.region ?_
    refine WL.op rfl (opW.fieldAddrB rfl ?_)
    refine WL.op rfl (opW.loadV rfl (hS.ld1 (by first | exact .here | exact .there (.here) | exact .there (.there (.here)) | exact .there (.there (.there (.here))) | exact .there (.there (.there (.there (.here)))) | exact .there (.there (.there (.there (.there (.here))))) | exact .there (.there (.there (.there (.there (.there (.here)))))) | exact .there (.there (.there (.there (.there (.there (.there (.here))))))) | exact .there (.there (.there (.there (.there (.there (.there (.there (.here)))))))) | exact .there (.there (.there (.there (.there (.there (.there (.there (.there (.here))))))))) | exact .there (.there (.there (.there (.there (.there (.there (.there (.there (.there (.here)))))))))) | exact .there (.there (.there (.there (.there (.there (.there (.there (.there (.there (.there (.here))))))))))) | exact .there (.there (.there (.there (.there (.there (.there (.there (.there (.there (.there (.there (.here))))))))))))) (Message.at_keys m)) ?_)
    refine WL.op rfl (opW.lenV rfl ((hkeys.bel hS.old)) ?_)
    refine WL.op rfl (opW.assignI rfl ?_)
    refine WL.nil ?_
    refine thenQ_n (hK6 _ _ ?_)
    refine WC.seq (fun K7 hK7 => ?_)
    refine WC.region ?_
    refine WL.op rfl (opW.fieldAddrB rfl ?_)
    refine WL.op rfl (opW.loadV rfl (hS.ldF (by first | exact .here | exact .there (.here) | exact .there (.there (.here)) | exact .there (.there (.there (.here))) | exact .there (.there (.there (.there (.here)))) | exact .there (.there (.there (.there (.there (.here))))) | exact .there (.there (.there (.there (.there (.there (.here)))))) | exact .there (.there (.there (.there (.there (.there (.there (.here))))))) | exact .there (.there (.there (.there (.there (.there (.there (.there (.here)))))))) | exact .there (.there (.there (.there (.there (.there (.there (.there (.there (.here))))))))) | exact .there (.there (.there (.there (.there (.there (.there (.there (.there (.there (.here)))))))))) | exact .there (.there (.there (.there (.there (.there (.there (.there (.there (.there (.there (.here))))))))))) | exact .there (.there (.there (.there (.there (.there (.there (.there (.there (.there (.there (.there (.here))))))))))))) (Message.ex_header m) (by rw [Enc.size_eq]; decide)) ?_)
    refine WL.op rfl (opW.allocA hS ?_)
    intro b10 w _ hS
    refine WL.op0 (opW.storeE hS rfl rfl (by first | exact .here | exact .there (.here) | exact .there (.there (.here)) | exact .there (.there (.there (.here))) | exact .there (.there (.there (.there (.here)))) | exact .there (.there (.there (.there (.there (.here))))) | exact .there (.there (.there (.there (.there (.there (.here)))))) | exact .there (.there (.there (.there (.there (.there (.there (.here))))))) | exact .there (.there (.there (.there (.there (.there (.there (.there (.here)))))))) | exact .there (.there (.there (.there (.there (.there (.there (.there (.there (.here))))))))) | exact .there (.there (.there (.there (.there (.there (.there (.there (.there (.there (.here)))))))))) | exact .there (.there (.there (.there (.there (.there (.there (.there (.there (.there (.there (.here))))))))))) | exact .there (.there (.there (.there (.there (.there (.there (.there (.there (.there (.there (.there (.here))))))))))))) (by first | rfl | exact Enc.size_eq _) ?_)
    intro w hS; replace hS := hS _ (by first | exact .here | exact .there (.here) | exact .there (.there (.here)) | exact .there (.there (.there (.here))) | exact .there (.there (.there (.there (.here)))) | exact .there (.there (.there (.there (.there (.here))))) | exact .there (.there (.there (.there (.there (.there (.here)))))) | exact .there (.there (.there (.there (.there (.there (.there (.here))))))) | exact .there (.there (.there (.there (.there (.there (.there (.there (.here)))))))) | exact .there (.there (.there (.there (.there (.there (.there (.there (.there (.here))))))))) | exact .there (.there (.there (.there (.there (.there (.there (.there (.there (.there (.here)))))))))) | exact .there (.there (.there (.there (.there (.there (.there (.there (.there (.there (.there (.here))))))))))) | exact .there (.there (.there (.there (.there (.there (.there (.there (.there (.there (.there (.there (.here)))))))))))))
    refine WL.nil ?_
    refine thenQ_n (hK7 _ _ ?_)
    refine WC.seq (fun K8 hK8 => ?_)
    refine WC.seq (fun K9 hK9 => ?_)
    refine WC.region ?_
    refine WL.op rfl (opW.moveI rfl ?_)
    refine WL.op rfl (opW.neq rfl rfl ?_)
    refine WL.op rfl (opW.moveB rfl ?_)
    refine WL.gd _ 36 _ rfl rfl rfl rfl (fun hg37 => opW.fieldAddrB rfl ⟨rfl, Bel.refl _⟩) (fun w hw => ?_)
    replace hS := hS.bel hw
    refine WL.gd _ 36 _ rfl rfl rfl rfl (fun hg38 => opW.loadV (by first | exact gv_of rfl hg38 | rfl) (hS.ld1 (by first | exact .here | exact .there (.here) | exact .there (.there (.here)) | exact .there (.there (.there (.here))) | exact .there (.there (.there (.there (.here)))) | exact .there (.there (.there (.there (.there (.here))))) | exact .there (.there (.there (.there (.there (.there (.here)))))) | exact .there (.there (.there (.there (.there (.there (.there (.here))))))) | exact .there (.there (.there (.there (.there (.there (.there (.there (.here)))))))) | exact .there (.there (.there (.there (.there (.there (.there (.there (.there (.here))))))))) | exact .there (.there (.there (.there (.there (.there (.there (.there (.there (.there (.here)))))))))) | exact .there (.there (.there (.there (.there (.there (.there (.there (.there (.there (.there (.here))))))))))) | exact .there (.there (.there (.there (.there (.there (.there (.there (.there (.there (.there (.there (.here))))))))))))) (Header.at_signers _)) ⟨rfl, Bel.refl _⟩) (fun w hw => ?_)
    replace hS := hS.bel hw
    refine WL.gd _ 36 _ rfl rfl rfl rfl (fun hg39 => opW.conv (by first | exact gv_of rfl hg39 | rfl) (wrap_i64 (by omega)) ⟨rfl, Bel.refl _⟩) (fun w hw => ?_)
    replace hS := hS.bel hw
    refine WL.gd _ 36 _ rfl rfl rfl rfl (fun hg40 => opW.fieldAddrB rfl ⟨rfl, Bel.refl _⟩) (fun w hw => ?_)
    replace hS := hS.bel hw
    refine WL.gd _ 36 _ rfl rfl rfl rfl (fun hg41 => opW.loadV (by first | exact gv_of rfl hg41 | rfl) (hS.ld1 (by first | exact .here | exact .there (.here) | exact .there (.there (.here)) | exact .there (.there (.there (.here))) | exact .there (.there (.there (.there (.here)))) | exact .there (.there (.there (.there (.there (.here))))) | exact .there (.there (.there (.there (.there (.there (.here)))))) | exact .there (.there (.there (.there (.there (.there (.there (.here))))))) | exact .there (.there (.there (.there (.there (.there (.there (.there (.here)))))))) | exact .there (.there (.there (.there (.there (.there (.there (.there (.there (.here))))))))) | exact .there (.there (.there (.there (.there (.there (.there (.there (.there (.there (.here)))))))))) | exact .there (.there (.there (.there (.there (.there (.there (.there (.there (.there (.there (.here))))))))))) | exact .there (.there (.there (.there (.there (.there (.there (.there (.there (.there (.there (.there (.here))))))))))))) (Header.at_readOther _)) ⟨rfl, Bel.refl _⟩) (fun w hw => ?_)
    replace hS := hS.bel hw
    refine WL.gd _ 36 _ rfl rfl rfl rfl (fun hg42 => opW.conv (by first | exact gv_of rfl hg42 | rfl) (wrap_i64 (by omega)) ⟨rfl, Bel.refl _⟩) (fun w hw => ?_)
    replace hS := hS.bel hw
    refine WL.gd _ 36 _ rfl rfl rfl rfl (fun hg43 => opW.add (by first | exact gv_of rfl hg43 | rfl) (by first | exact gv_of rfl hg43 | rfl) (wrap_i64 (by omega)) ⟨rfl, Bel.refl _⟩) (fun w hw => ?_)
    replace hS := hS.bel hw
    refine WL.gd _ 36 _ rfl rfl rfl rfl (fun hg44 => opW.moveI rfl ⟨rfl, Bel.refl _⟩) (fun w hw => ?_)
    replace hS := hS.bel hw
    refine WL.gd _ 36 _ rfl rfl rfl rfl (fun hg45 => opW.gtr (by first | exact gv_of rfl hg45 | rfl) (by first | exact gv_of rfl hg45 | rfl) ⟨rfl, Bel.refl _⟩) (fun w hw => ?_)
    replace hS := hS.bel hw
    refine WL.op rfl (opW.pickOr rfl rfl (by first | rfl) ?_)
    refine WL.op rfl (opW.moveB rfl ?_)
    refine WL.gd _ 47 _ rfl rfl rfl rfl (fun hg48 => opW.fieldAddrB rfl ⟨rfl, Bel.refl _⟩) (fun w hw => ?_)
    replace hS := hS.bel hw
    refine WL.gd _ 47 _ rfl rfl rfl rfl (fun hg49 => opW.loadV (by first | exact gv_of rfl hg49 | rfl) (hS.ld1 (by first | exact .here | exact .there (.here) | exact .there (.there (.here)) | exact .there (.there (.there (.here))) | exact .there (.there (.there (.there (.here)))) | exact .there (.there (.there (.there (.there (.here))))) | exact .there (.there (.there (.there (.there (.there (.here)))))) | exact .there (.there (.there (.there (.there (.there (.there (.here))))))) | exact .there (.there (.there (.there (.there (.there (.there (.there (.here)))))))) | exact .there (.there (.there (.there (.there (.there (.there (.there (.there (.here))))))))) | exact .there (.there (.there (.there (.there (.there (.there (.there (.there (.there (.here)))))))))) | exact .there (.there (.there (.there (.there (.there (.there (.there (.there (.there (.there (.here))))))))))) | exact .there (.there (.there (.there (.there (.there (.there (.there (.there (.there (.there (.there (.here))))))))))))) (Header.at_readSigned _)) ⟨rfl, Bel.refl _⟩) (fun w hw => ?_)
    replace hS := hS.bel hw
    refine WL.gd _ 47 _ rfl rfl rfl rfl (fun hg50 => opW.fieldAddrB rfl ⟨rfl, Bel.refl _⟩) (fun w hw => ?_)
    replace hS := hS.bel hw
    refine WL.gd _ 47 _ rfl rfl rfl rfl (fun hg51 => opW.loadV (by first | exact gv_of rfl hg51 | rfl) (hS.ld1 (by first | exact .here | exact .there (.here) | exact .there (.there (.here)) | exact .there (.there (.there (.here))) | exact .there (.there (.there (.there (.here)))) | exact .there (.there (.there (.there (.there (.here))))) | exact .there (.there (.there (.there (.there (.there (.here)))))) | exact .there (.there (.there (.there (.there (.there (.there (.here))))))) | exact .there (.there (.there (.there (.there (.there (.there (.there (.here)))))))) | exact .there (.there (.there (.there (.there (.there (.there (.there (.there (.here))))))))) | exact .there (.there (.there (.there (.there (.there (.there (.there (.there (.there (.here)))))))))) | exact .there (.there (.there (.there (.there (.there (.there (.there (.there (.there (.there (.here))))))))))) | exact .there (.there (.there (.there (.there (.there (.there (.there (.there (.there (.there (.there (.here))))))))))))) (Header.at_signers _)) ⟨rfl, Bel.refl _⟩) (fun w hw => ?_)
    replace hS := hS.bel hw
    refine WL.gd _ 47 _ rfl rfl rfl rfl (fun hg52 => opW.gtr (by first | exact gv_of rfl hg52 | rfl) (by first | exact gv_of rfl hg52 | rfl) ⟨rfl, Bel.refl _⟩) (fun w hw => ?_)
    replace hS := hS.bel hw
    refine WL.op rfl (opW.pickOr rfl rfl (by first | rfl) ?_)
    refine WL.nil ?_
    refine thenQ_n (hK9 _ _ ?_)
    refine WC.cond _ rfl (fun hc1 => ?_) (fun hc1 => ?_)
    ·
      have hr1 := hc1
      try simp only [decide_eq_true_eq, decide_eq_false_iff_not, Bool.and_eq_true, Bool.or_eq_true, Bool.and_eq_false_iff, Bool.or_eq_false_iff, Bool.not_eq_true', Bool.not_eq_false', Int.not_lt, Int.not_le] at hc1
      refine WC.seq (fun K10 hK10 => ?_)
      refine WC.region ?_
      refine WL.op rfl (opW.call (lives7 _) rfl ?_)
      rintro _ w ⟨rfl, hw⟩; replace hS := hS.bel hw
      refine WL.op rfl (opW.assignB rfl ?_)
      refine WL.nil ?_
      refine thenQ_n (hK10 _ _ ?_)
      refine WC.ret ?_
      refine thenQ_r ?_
      refine bodyQ_ret (.tmpB rfl .nil) ?_
      exact ⟨rfl, hS.old⟩
    ·
      have hr1 := hc1
      try simp only [decide_eq_true_eq, decide_eq_false_iff_not, Bool.and_eq_true, Bool.or_eq_true, Bool.and_eq_false_iff, Bool.or_eq_false_iff, Bool.not_eq_true', Bool.not_eq_false', Int.not_lt, Int.not_le] at hc1
      simp only [Bool.or_eq_false_iff, Bool.not_eq_false', decide_eq_true_eq, decide_eq_false_iff_not] at hr1
      obtain ⟨he, rfl⟩ : e26 = 0 ∧ ys = ((allL m keys ws rs).map fixR) := by
        rcases hys with ⟨_, h1, h2⟩ | ⟨_, h1, _⟩
        · exact ⟨h1, h2⟩
        · omega
      have hA : m.header.signers.toNat + m.header.readOther.toNat ≤ keys.length := by omega
      have hB : m.header.readSigned.toNat ≤ m.header.signers.toNat := by omega
      have hLl : (allL m keys ws rs).length = keys.length + ws.length + rs.length := by simp [allL, ownL]; omega
      have hFl : ((allL m keys ws rs).map fixR).length = (allL m keys ws rs).length := by simp
      refine WC.skip ?_
      refine thenQ_n (hK8 _ _ ?_)
      refine WC.seq (fun K11 hK11 => ?_)
      refine WC.region ?_
      refine WL.op rfl (opW.assignI rfl ?_)
      refine WL.nil ?_
      refine thenQ_n (hK11 _ _ ?_)
      refine WC.seq (fun K12 hK12 => ?_)
      refine WC.region ?_
      refine WL.op rfl (opW.assignI rfl ?_)
      refine WL.nil ?_
      refine thenQ_n (hK12 _ _ ?_)
      refine WC.seq (fun K13 hK13 => ?_)
      refine WC.region ?_
      refine WL.op rfl (opW.assignI rfl ?_)
      refine WL.nil ?_
      refine thenQ_n (hK13 _ _ ?_)
      refine WC.seq (fun K14 hK14 => ?_)
      refine WC.seq (fun K15 hK15 => ?_)
      refine WC.region ?_
      refine WL.op rfl (opW.assignI rfl ?_)
      refine WL.nil ?_
      refine thenQ_n (hK15 _ _ ?_)
      refine WC.block ?_
      refine WC.loop (fun q f w => ∃ k : Nat, Fits [(1, v1), (2, v2), (7, v26), (9, .int .i64 (keys.length : Int)), (10, .pointer (some ⟨b10, 0, none⟩)), (11, .int .i64 ((((allL m keys ws rs).map fixR).take k).countP Role.signs : Int)), (12, .int .i64 ((((allL m keys ws rs).map fixR).take k).countP Role.writes : Int)), (13, .int .i64 (((allL m keys ws rs).take k).countP (fun r : Role => isKnown r.key && r.writes) : Int)), (14, .int .i64 (k : Int))] f ∧ St w0 [blkE b10 (Enc.enc m.header) 23, ownE v26 41 ((allL m keys ws rs).map fixR)] w ∧ k ≤ (allL m keys ws rs).length ∧ q = (allL m keys ws rs).length - k) ((allL m keys ws rs).length) ?_ ?_
      ·
        exact ⟨0, ⟨rfl, rfl, rfl, rfl, rfl, rfl, rfl, rfl, rfl, trivial⟩, hS.sub (by repeat (first | with_reducible exact List.nil_sublist _ | with_reducible exact List.Sublist.refl _ | with_reducible refine List.Sublist.cons₂ _ ?_ | with_reducible refine List.Sublist.cons _ ?_)), Nat.zero_le _, rfl⟩
      ·
        rintro q f w ⟨k, hfit, hS, hk0, hm0⟩
        refine WC.fits _ hfit (fun g => ?_)
        clear hfit
        refine WC.seq (fun K16 hK16 => ?_)
        refine WC.seq (fun K17 hK17 => ?_)
        refine WC.region ?_
        refine WL.op rfl (opW.moveI rfl ?_)
        refine WL.op rfl (opW.moveV (v := v26) rfl ?_)
        refine WL.op rfl (opW.lenV rfl ((hS.sl (xs := ((allL m keys ws rs).map fixR)) (by first | exact .here | exact .there (.here) | exact .there (.there (.here)) | exact .there (.there (.there (.here))) | exact .there (.there (.there (.there (.here)))) | exact .there (.there (.there (.there (.there (.here))))) | exact .there (.there (.there (.there (.there (.there (.here)))))) | exact .there (.there (.there (.there (.there (.there (.there (.here))))))) | exact .there (.there (.there (.there (.there (.there (.there (.there (.here)))))))) | exact .there (.there (.there (.there (.there (.there (.there (.there (.there (.here))))))))) | exact .there (.there (.there (.there (.there (.there (.there (.there (.there (.there (.here)))))))))) | exact .there (.there (.there (.there (.there (.there (.there (.there (.there (.there (.there (.here))))))))))) | exact .there (.there (.there (.there (.there (.there (.there (.there (.there (.there (.there (.there (.here))))))))))))))) ?_)
        refine WL.op rfl (opW.lss rfl rfl ?_)
        refine WL.nil ?_
        refine thenQ_n (hK17 _ _ ?_)
        refine WC.cond _ rfl (fun hc2 => ?_) (fun hc2 => ?_)
        ·
          have hr2 := hc2
          try simp only [decide_eq_true_eq, decide_eq_false_iff_not, Bool.and_eq_true, Bool.or_eq_true, Bool.and_eq_false_iff, Bool.or_eq_false_iff, Bool.not_eq_true', Bool.not_eq_false', Int.not_lt, Int.not_le] at hc2
          have hkl : k < (allL m keys ws rs).length := by omega
          have hkF : k < ((allL m keys ws rs).map fixR).length := by omega
          have g1 := List.countP_le_length (p := Role.signs) (l := ((allL m keys ws rs).map fixR).take k)
          have g2 := List.countP_le_length (p := Role.writes) (l := ((allL m keys ws rs).map fixR).take k)
          have g3 := List.countP_le_length (p := fun r : Role => isKnown r.key && r.writes) (l := (allL m keys ws rs).take k)
          simp only [List.length_take] at g1 g2 g3
          have st1 := countP_step (p := Role.signs) hkF
          have st2 := countP_step (p := Role.writes) hkF
          have st3 := countP_step (p := fun r : Role => isKnown r.key && r.writes) hkl
          have hFk : ((allL m keys ws rs).map fixR)[k] = fixR (allL m keys ws rs)[k] := by simp
          have hro := all_ro m keys ws rs hA hB hkl
          refine WC.skip ?_
          refine thenQ_n (hK16 _ _ ?_)
          refine WC.mid (fun f w =>  Fits [(1, v1), (2, v2), (7, v26), (9, .int .i64 (keys.length : Int)), (10, .pointer (some ⟨b10, 0, none⟩)), (11, .int .i64 ((((allL m keys ws rs).map fixR).take (k + 1)).countP Role.signs : Int)), (12, .int .i64 ((((allL m keys ws rs).map fixR).take (k + 1)).countP Role.writes : Int)), (13, .int .i64 (((allL m keys ws rs).take (k + 1)).countP (fun r : Role => isKnown r.key && r.writes) : Int)), (14, .int .i64 (k : Int))] f ∧ St w0 [blkE b10 (Enc.enc m.header) 23, ownE v26 41 ((allL m keys ws rs).map fixR)] w) ?_ ?_
          ·
            refine WC.block ?_
            refine WC.mid (fun f w =>  Fits [(1, v1), (2, v2), (7, v26), (9, .int .i64 (keys.length : Int)), (10, .pointer (some ⟨b10, 0, none⟩)), (11, .int .i64 ((((allL m keys ws rs).map fixR).take (k + 1)).countP Role.signs : Int)), (12, .int .i64 ((((allL m keys ws rs).map fixR).take k).countP Role.writes : Int)), (13, .int .i64 (((allL m keys ws rs).take k).countP (fun r : Role => isKnown r.key && r.writes) : Int)), (14, .int .i64 (k : Int))] f ∧ St w0 [blkE b10 (Enc.enc m.header) 23, ownE v26 41 ((allL m keys ws rs).map fixR)] w) ?_ ?_
            ·
              refine WC.seq (fun K18 hK18 => ?_)
              refine WC.region ?_
              refine WL.op rfl (opW.moveV (v := v26) rfl ?_)
              refine WL.op rfl (opW.moveI rfl ?_)
              refine WL.op rfl (opW.idxV rfl ((hS.sl (xs := ((allL m keys ws rs).map fixR)) (by first | exact .here | exact .there (.here) | exact .there (.there (.here)) | exact .there (.there (.there (.here))) | exact .there (.there (.there (.there (.here)))) | exact .there (.there (.there (.there (.there (.here))))) | exact .there (.there (.there (.there (.there (.there (.here)))))) | exact .there (.there (.there (.there (.there (.there (.there (.here))))))) | exact .there (.there (.there (.there (.there (.there (.there (.there (.here)))))))) | exact .there (.there (.there (.there (.there (.there (.there (.there (.there (.here))))))))) | exact .there (.there (.there (.there (.there (.there (.there (.there (.there (.there (.here)))))))))) | exact .there (.there (.there (.there (.there (.there (.there (.there (.there (.there (.there (.here))))))))))) | exact .there (.there (.there (.there (.there (.there (.there (.there (.there (.there (.there (.there (.here))))))))))))))) rfl (by omega) ?_)
              refine WL.op rfl (opW.fieldAddr rfl ((hS.sl (xs := ((allL m keys ws rs).map fixR)) (by first | exact .here | exact .there (.here) | exact .there (.there (.here)) | exact .there (.there (.there (.here))) | exact .there (.there (.there (.there (.here)))) | exact .there (.there (.there (.there (.there (.here))))) | exact .there (.there (.there (.there (.there (.there (.here)))))) | exact .there (.there (.there (.there (.there (.there (.there (.here))))))) | exact .there (.there (.there (.there (.there (.there (.there (.there (.here)))))))) | exact .there (.there (.there (.there (.there (.there (.there (.there (.there (.here))))))))) | exact .there (.there (.there (.there (.there (.there (.there (.there (.there (.there (.here)))))))))) | exact .there (.there (.there (.there (.there (.there (.there (.there (.there (.there (.there (.here))))))))))) | exact .there (.there (.there (.there (.there (.there (.there (.there (.there (.there (.there (.there (.here)))))))))))))).isP hkF) ?_)
              refine WL.op rfl (opW.loadV rfl (Ld.pt1 ((hS.sl (xs := ((allL m keys ws rs).map fixR)) (by first | exact .here | exact .there (.here) | exact .there (.there (.here)) | exact .there (.there (.there (.here))) | exact .there (.there (.there (.there (.here)))) | exact .there (.there (.there (.there (.there (.here))))) | exact .there (.there (.there (.there (.there (.there (.here)))))) | exact .there (.there (.there (.there (.there (.there (.there (.here))))))) | exact .there (.there (.there (.there (.there (.there (.there (.there (.here)))))))) | exact .there (.there (.there (.there (.there (.there (.there (.there (.there (.here))))))))) | exact .there (.there (.there (.there (.there (.there (.there (.there (.there (.there (.here)))))))))) | exact .there (.there (.there (.there (.there (.there (.there (.there (.there (.there (.there (.here))))))))))) | exact .there (.there (.there (.there (.there (.there (.there (.there (.there (.there (.there (.there (.here)))))))))))))).isPt hkF) 32 (Role.at_signs _)) ?_)
              refine WL.nil ?_
              refine thenQ_n (hK18 _ _ ?_)
              refine WC.cond _ rfl (fun hc3 => ?_) (fun hc3 => ?_)
              ·
                have hr3 := hc3
                try simp only [decide_eq_true_eq, decide_eq_false_iff_not, Bool.and_eq_true, Bool.or_eq_true, Bool.and_eq_false_iff, Bool.or_eq_false_iff, Bool.not_eq_true', Bool.not_eq_false', Int.not_lt, Int.not_le] at hc3
                refine WC.region ?_
                refine WL.op rfl (opW.moveI rfl ?_)
                refine WL.op rfl (opW.add rfl rfl (wrap_i64 (by omega)) ?_)
                refine WL.op rfl (opW.assignI rfl ?_)
                refine WL.nil ?_
                refine thenQ_n ?_
                first | (rw [if_pos (show ((allL m keys ws rs).map fixR)[k].signs = true from hr3)] at st1; exact ⟨⟨rfl, rfl, rfl, rfl, rfl, congrArg (Value.int .i64) (by rw [st1]; omega), rfl, rfl, rfl, trivial⟩, hS.sub (by repeat (first | with_reducible exact List.nil_sublist _ | with_reducible exact List.Sublist.refl _ | with_reducible refine List.Sublist.cons₂ _ ?_ | with_reducible refine List.Sublist.cons _ ?_))⟩) | (rw [if_neg (by rw [show ((allL m keys ws rs).map fixR)[k].signs = false from hr3]; decide)] at st1; exact ⟨⟨rfl, rfl, rfl, rfl, rfl, congrArg (Value.int .i64) (by rw [st1]; omega), rfl, rfl, rfl, trivial⟩, hS.sub (by repeat (first | with_reducible exact List.nil_sublist _ | with_reducible exact List.Sublist.refl _ | with_reducible refine List.Sublist.cons₂ _ ?_ | with_reducible refine List.Sublist.cons _ ?_))⟩)
              ·
                have hr3 := hc3
                try simp only [decide_eq_true_eq, decide_eq_false_iff_not, Bool.and_eq_true, Bool.or_eq_true, Bool.and_eq_false_iff, Bool.or_eq_false_iff, Bool.not_eq_true', Bool.not_eq_false', Int.not_lt, Int.not_le] at hc3
                refine WC.skip ?_
                refine thenQ_n ?_
                first | (rw [if_pos (show ((allL m keys ws rs).map fixR)[k].signs = true from hr3)] at st1; exact ⟨⟨rfl, rfl, rfl, rfl, rfl, congrArg (Value.int .i64) (by rw [st1]; omega), rfl, rfl, rfl, trivial⟩, hS.sub (by repeat (first | with_reducible exact List.nil_sublist _ | with_reducible exact List.Sublist.refl _ | with_reducible refine List.Sublist.cons₂ _ ?_ | with_reducible refine List.Sublist.cons _ ?_))⟩) | (rw [if_neg (by rw [show ((allL m keys ws rs).map fixR)[k].signs = false from hr3]; decide)] at st1; exact ⟨⟨rfl, rfl, rfl, rfl, rfl, congrArg (Value.int .i64) (by rw [st1]; omega), rfl, rfl, rfl, trivial⟩, hS.sub (by repeat (first | with_reducible exact List.nil_sublist _ | with_reducible exact List.Sublist.refl _ | with_reducible refine List.Sublist.cons₂ _ ?_ | with_reducible refine List.Sublist.cons _ ?_))⟩)
            ·
              rintro f w ⟨hfit, hS⟩
              refine WC.fits _ hfit (fun g => ?_)
              clear hfit
              refine WC.mid (fun f w =>  Fits [(1, v1), (2, v2), (7, v26), (9, .int .i64 (keys.length : Int)), (10, .pointer (some ⟨b10, 0, none⟩)), (11, .int .i64 ((((allL m keys ws rs).map fixR).take (k + 1)).countP Role.signs : Int)), (12, .int .i64 ((((allL m keys ws rs).map fixR).take (k + 1)).countP Role.writes : Int)), (13, .int .i64 (((allL m keys ws rs).take k).countP (fun r : Role => isKnown r.key && r.writes) : Int)), (14, .int .i64 (k : Int))] f ∧ St w0 [blkE b10 (Enc.enc m.header) 23, ownE v26 41 ((allL m keys ws rs).map fixR)] w) ?_ ?_
              ·
                refine WC.seq (fun K19 hK19 => ?_)
                refine WC.region ?_
                refine WL.op rfl (opW.moveV (v := v26) rfl ?_)
                refine WL.op rfl (opW.moveI rfl ?_)
                refine WL.op rfl (opW.idxV rfl ((hS.sl (xs := ((allL m keys ws rs).map fixR)) (by first | exact .here | exact .there (.here) | exact .there (.there (.here)) | exact .there (.there (.there (.here))) | exact .there (.there (.there (.there (.here)))) | exact .there (.there (.there (.there (.there (.here))))) | exact .there (.there (.there (.there (.there (.there (.here)))))) | exact .there (.there (.there (.there (.there (.there (.there (.here))))))) | exact .there (.there (.there (.there (.there (.there (.there (.there (.here)))))))) | exact .there (.there (.there (.there (.there (.there (.there (.there (.there (.here))))))))) | exact .there (.there (.there (.there (.there (.there (.there (.there (.there (.there (.here)))))))))) | exact .there (.there (.there (.there (.there (.there (.there (.there (.there (.there (.there (.here))))))))))) | exact .there (.there (.there (.there (.there (.there (.there (.there (.there (.there (.there (.there (.here))))))))))))))) rfl (by omega) ?_)
                refine WL.op rfl (opW.fieldAddr rfl ((hS.sl (xs := ((allL m keys ws rs).map fixR)) (by first | exact .here | exact .there (.here) | exact .there (.there (.here)) | exact .there (.there (.there (.here))) | exact .there (.there (.there (.there (.here)))) | exact .there (.there (.there (.there (.there (.here))))) | exact .there (.there (.there (.there (.there (.there (.here)))))) | exact .there (.there (.there (.there (.there (.there (.there (.here))))))) | exact .there (.there (.there (.there (.there (.there (.there (.there (.here)))))))) | exact .there (.there (.there (.there (.there (.there (.there (.there (.there (.here))))))))) | exact .there (.there (.there (.there (.there (.there (.there (.there (.there (.there (.here)))))))))) | exact .there (.there (.there (.there (.there (.there (.there (.there (.there (.there (.there (.here))))))))))) | exact .there (.there (.there (.there (.there (.there (.there (.there (.there (.there (.there (.there (.here)))))))))))))).isP hkF) ?_)
                refine WL.op rfl (opW.loadV rfl (Ld.pt1 ((hS.sl (xs := ((allL m keys ws rs).map fixR)) (by first | exact .here | exact .there (.here) | exact .there (.there (.here)) | exact .there (.there (.there (.here))) | exact .there (.there (.there (.there (.here)))) | exact .there (.there (.there (.there (.there (.here))))) | exact .there (.there (.there (.there (.there (.there (.here)))))) | exact .there (.there (.there (.there (.there (.there (.there (.here))))))) | exact .there (.there (.there (.there (.there (.there (.there (.there (.here)))))))) | exact .there (.there (.there (.there (.there (.there (.there (.there (.there (.here))))))))) | exact .there (.there (.there (.there (.there (.there (.there (.there (.there (.there (.here)))))))))) | exact .there (.there (.there (.there (.there (.there (.there (.there (.there (.there (.there (.here))))))))))) | exact .there (.there (.there (.there (.there (.there (.there (.there (.there (.there (.there (.there (.here)))))))))))))).isPt hkF) 33 (Role.at_writes _)) ?_)
                refine WL.nil ?_
                refine thenQ_n (hK19 _ _ ?_)
                refine WC.cond _ rfl (fun hc4 => ?_) (fun hc4 => ?_)
                ·
                  have hr4 := hc4
                  try simp only [decide_eq_true_eq, decide_eq_false_iff_not, Bool.and_eq_true, Bool.or_eq_true, Bool.and_eq_false_iff, Bool.or_eq_false_iff, Bool.not_eq_true', Bool.not_eq_false', Int.not_lt, Int.not_le] at hc4
                  refine WC.region ?_
                  refine WL.op rfl (opW.moveI rfl ?_)
                  refine WL.op rfl (opW.add rfl rfl (wrap_i64 (by omega)) ?_)
                  refine WL.op rfl (opW.assignI rfl ?_)
                  refine WL.nil ?_
                  refine thenQ_n ?_
                  first | (rw [if_pos (show ((allL m keys ws rs).map fixR)[k].writes = true from hr4)] at st2; exact ⟨⟨rfl, rfl, rfl, rfl, rfl, rfl, congrArg (Value.int .i64) (by rw [st2]; omega), rfl, rfl, trivial⟩, hS.sub (by repeat (first | with_reducible exact List.nil_sublist _ | with_reducible exact List.Sublist.refl _ | with_reducible refine List.Sublist.cons₂ _ ?_ | with_reducible refine List.Sublist.cons _ ?_))⟩) | (rw [if_neg (by rw [show ((allL m keys ws rs).map fixR)[k].writes = false from hr4]; decide)] at st2; exact ⟨⟨rfl, rfl, rfl, rfl, rfl, rfl, congrArg (Value.int .i64) (by rw [st2]; omega), rfl, rfl, trivial⟩, hS.sub (by repeat (first | with_reducible exact List.nil_sublist _ | with_reducible exact List.Sublist.refl _ | with_reducible refine List.Sublist.cons₂ _ ?_ | with_reducible refine List.Sublist.cons _ ?_))⟩)
                ·
                  have hr4 := hc4
                  try simp only [decide_eq_true_eq, decide_eq_false_iff_not, Bool.and_eq_true, Bool.or_eq_true, Bool.and_eq_false_iff, Bool.or_eq_false_iff, Bool.not_eq_true', Bool.not_eq_false', Int.not_lt, Int.not_le] at hc4
                  refine WC.skip ?_
                  refine thenQ_n ?_
                  first | (rw [if_pos (show ((allL m keys ws rs).map fixR)[k].writes = true from hr4)] at st2; exact ⟨⟨rfl, rfl, rfl, rfl, rfl, rfl, congrArg (Value.int .i64) (by rw [st2]; omega), rfl, rfl, trivial⟩, hS.sub (by repeat (first | with_reducible exact List.nil_sublist _ | with_reducible exact List.Sublist.refl _ | with_reducible refine List.Sublist.cons₂ _ ?_ | with_reducible refine List.Sublist.cons _ ?_))⟩) | (rw [if_neg (by rw [show ((allL m keys ws rs).map fixR)[k].writes = false from hr4]; decide)] at st2; exact ⟨⟨rfl, rfl, rfl, rfl, rfl, rfl, congrArg (Value.int .i64) (by rw [st2]; omega), rfl, rfl, trivial⟩, hS.sub (by repeat (first | with_reducible exact List.nil_sublist _ | with_reducible exact List.Sublist.refl _ | with_reducible refine List.Sublist.cons₂ _ ?_ | with_reducible refine List.Sublist.cons _ ?_))⟩)
              ·
                rintro f w ⟨hfit, hS⟩
                refine WC.fits _ hfit (fun g => ?_)
                clear hfit
                refine WC.seq (fun K20 hK20 => ?_)
                refine WC.draw 17 (.look 0 (.look 1 (.look 2 (.look 3 (.look 4 (.one 5 (.look 6 (.look 7 (.look 8 (.look 9 (.look 10 (.look 11 (.look 12 (.one 13 (.look 14 (.look 15 (.look 16 .nil))))))))))))))))) (by kernel_rfl) (fun _ _ _ h => h) (fun w1 hw1 => ?_)
                replace hS := hS.bel hw1
                have hS1 := hS
                have hT := St.start w1
                refine ML.look rfl rfl rfl (fun w hw => (by have hS := hS1.bel hw; exact opW.moveV (v := v26) rfl ⟨rfl, rfl⟩)) ?_
                refine ML.look rfl rfl rfl (fun w hw => (by have hS := hS1.bel hw; exact opW.moveI rfl ⟨rfl, rfl⟩)) ?_
                refine ML.look rfl rfl rfl (fun w hw => (by have hS := hS1.bel hw; exact opW.idxV rfl ((hS.sl (xs := ((allL m keys ws rs).map fixR)) (by first | exact .here | exact .there (.here) | exact .there (.there (.here)) | exact .there (.there (.there (.here))) | exact .there (.there (.there (.there (.here)))) | exact .there (.there (.there (.there (.there (.here))))) | exact .there (.there (.there (.there (.there (.there (.here)))))) | exact .there (.there (.there (.there (.there (.there (.there (.here))))))) | exact .there (.there (.there (.there (.there (.there (.there (.there (.here)))))))) | exact .there (.there (.there (.there (.there (.there (.there (.there (.there (.here))))))))) | exact .there (.there (.there (.there (.there (.there (.there (.there (.there (.there (.here)))))))))) | exact .there (.there (.there (.there (.there (.there (.there (.there (.there (.there (.there (.here))))))))))) | exact .there (.there (.there (.there (.there (.there (.there (.there (.there (.there (.there (.there (.here))))))))))))))) rfl (by omega) ⟨rfl, rfl⟩)) ?_
                refine ML.look rfl rfl rfl (fun w hw => (by have hS := hS1.bel hw; exact opW.fieldAddr rfl ((hS.sl (xs := ((allL m keys ws rs).map fixR)) (by first | exact .here | exact .there (.here) | exact .there (.there (.here)) | exact .there (.there (.there (.here))) | exact .there (.there (.there (.there (.here)))) | exact .there (.there (.there (.there (.there (.here))))) | exact .there (.there (.there (.there (.there (.there (.here)))))) | exact .there (.there (.there (.there (.there (.there (.there (.here))))))) | exact .there (.there (.there (.there (.there (.there (.there (.there (.here)))))))) | exact .there (.there (.there (.there (.there (.there (.there (.there (.there (.here))))))))) | exact .there (.there (.there (.there (.there (.there (.there (.there (.there (.there (.here)))))))))) | exact .there (.there (.there (.there (.there (.there (.there (.there (.there (.there (.there (.here))))))))))) | exact .there (.there (.there (.there (.there (.there (.there (.there (.there (.there (.there (.there (.here)))))))))))))).isP hkF) ⟨rfl, rfl⟩)) ?_
                refine ML.look rfl rfl rfl (fun w hw => (by have hS := hS1.bel hw; exact opW.loadV rfl (Ld.ptA ((hS.sl (xs := ((allL m keys ws rs).map fixR)) (by first | exact .here | exact .there (.here) | exact .there (.there (.here)) | exact .there (.there (.there (.here))) | exact .there (.there (.there (.there (.here)))) | exact .there (.there (.there (.there (.there (.here))))) | exact .there (.there (.there (.there (.there (.there (.here)))))) | exact .there (.there (.there (.there (.there (.there (.there (.here))))))) | exact .there (.there (.there (.there (.there (.there (.there (.there (.here)))))))) | exact .there (.there (.there (.there (.there (.there (.there (.there (.there (.here))))))))) | exact .there (.there (.there (.there (.there (.there (.there (.there (.there (.there (.here)))))))))) | exact .there (.there (.there (.there (.there (.there (.there (.there (.there (.there (.there (.here))))))))))) | exact .there (.there (.there (.there (.there (.there (.there (.there (.there (.there (.there (.there (.here)))))))))))))).isPt hkF) 0 (Role.ex_key _) (by rw [Enc.size_eq]; decide)) ⟨rfl, rfl⟩)) ?_
                refine ML.one rfl rfl rfl (opW.call (sys_ok _) rfl ?_)
                rintro _ w ⟨rfl, hw⟩; replace hT := hT.bel hw
                refine ⟨hT.old, ?_⟩
                have hS := hS1.merge hT
                try simp only [List.cons_append, List.nil_append] at hS
                refine ML.look rfl rfl rfl (fun w hw => (by have hS := hS1.bel hw; exact opW.eqlE rfl rfl ⟨rfl, rfl⟩)) ?_
                refine ML.look rfl rfl rfl (fun w hw => (by have hS := hS1.bel hw; exact opW.moveB rfl ⟨rfl, rfl⟩)) ?_
                refine ML.lookG  _ 82 rfl rfl rfl rfl rfl rfl (fun hg83 w hw => (by have hS := hS1.bel hw; exact opW.moveV (v := v26) rfl ⟨rfl, rfl⟩)) ?_
                refine ML.lookG  _ 82 rfl rfl rfl rfl rfl rfl (fun hg84 w hw => (by have hS := hS1.bel hw; exact opW.moveI rfl ⟨rfl, rfl⟩)) ?_
                refine ML.lookG  _ 82 rfl rfl rfl rfl rfl rfl (fun hg85 w hw => (by have hS := hS1.bel hw; exact opW.idxV (by first | exact gv_of rfl hg85 | rfl) ((hS.sl (xs := ((allL m keys ws rs).map fixR)) (by first | exact .here | exact .there (.here) | exact .there (.there (.here)) | exact .there (.there (.there (.here))) | exact .there (.there (.there (.there (.here)))) | exact .there (.there (.there (.there (.there (.here))))) | exact .there (.there (.there (.there (.there (.there (.here)))))) | exact .there (.there (.there (.there (.there (.there (.there (.here))))))) | exact .there (.there (.there (.there (.there (.there (.there (.there (.here)))))))) | exact .there (.there (.there (.there (.there (.there (.there (.there (.there (.here))))))))) | exact .there (.there (.there (.there (.there (.there (.there (.there (.there (.there (.here)))))))))) | exact .there (.there (.there (.there (.there (.there (.there (.there (.there (.there (.there (.here))))))))))) | exact .there (.there (.there (.there (.there (.there (.there (.there (.there (.there (.there (.there (.here))))))))))))))) (by first | exact gv_of rfl hg85 | rfl) (by omega) ⟨rfl, rfl⟩)) ?_
                refine ML.lookG  _ 82 rfl rfl rfl rfl rfl rfl (fun hg86 w hw => (by have hS := hS1.bel hw; exact opW.fieldAddr (by first | exact gv_of rfl hg86 | rfl) ((hS.sl (xs := ((allL m keys ws rs).map fixR)) (by first | exact .here | exact .there (.here) | exact .there (.there (.here)) | exact .there (.there (.there (.here))) | exact .there (.there (.there (.there (.here)))) | exact .there (.there (.there (.there (.there (.here))))) | exact .there (.there (.there (.there (.there (.there (.here)))))) | exact .there (.there (.there (.there (.there (.there (.there (.here))))))) | exact .there (.there (.there (.there (.there (.there (.there (.there (.here)))))))) | exact .there (.there (.there (.there (.there (.there (.there (.there (.there (.here))))))))) | exact .there (.there (.there (.there (.there (.there (.there (.there (.there (.there (.here)))))))))) | exact .there (.there (.there (.there (.there (.there (.there (.there (.there (.there (.there (.here))))))))))) | exact .there (.there (.there (.there (.there (.there (.there (.there (.there (.there (.there (.there (.here)))))))))))))).isP hkF) ⟨rfl, rfl⟩)) ?_
                refine ML.lookG  _ 82 rfl rfl rfl rfl rfl rfl (fun hg87 w hw => (by have hS := hS1.bel hw; exact opW.loadV (by first | exact gv_of rfl hg87 | rfl) (Ld.ptA ((hS.sl (xs := ((allL m keys ws rs).map fixR)) (by first | exact .here | exact .there (.here) | exact .there (.there (.here)) | exact .there (.there (.there (.here))) | exact .there (.there (.there (.there (.here)))) | exact .there (.there (.there (.there (.there (.here))))) | exact .there (.there (.there (.there (.there (.there (.here)))))) | exact .there (.there (.there (.there (.there (.there (.there (.here))))))) | exact .there (.there (.there (.there (.there (.there (.there (.there (.here)))))))) | exact .there (.there (.there (.there (.there (.there (.there (.there (.there (.here))))))))) | exact .there (.there (.there (.there (.there (.there (.there (.there (.there (.there (.here)))))))))) | exact .there (.there (.there (.there (.there (.there (.there (.there (.there (.there (.there (.here))))))))))) | exact .there (.there (.there (.there (.there (.there (.there (.there (.there (.there (.there (.there (.here)))))))))))))).isPt hkF) 0 (Role.ex_key _) (by rw [Enc.size_eq]; decide)) ⟨rfl, rfl⟩)) ?_
                refine ML.oneG (.agg (Enc.enc budK)) _ 82 hT.old rfl rfl rfl rfl rfl rfl (fun hg88 => opW.call (bud_ok _) rfl (fun _ _ h => h)) (fun w hw => ?_)
                replace hT := hT.bel hw
                have hS := hS1.merge hT
                try simp only [List.cons_append, List.nil_append] at hS
                refine ML.lookG  _ 82 rfl rfl rfl rfl rfl rfl (fun hg89 w hw => (by have hS := hS1.bel hw; exact opW.eqlE (by first | exact gv_of rfl hg89 | rfl) (by first | exact gv_of rfl hg89 | rfl) ⟨rfl, rfl⟩)) ?_
                refine ML.look rfl rfl rfl (fun w hw => (by have hS := hS1.bel hw; exact opW.pickOr rfl rfl (by first | rfl) ⟨rfl, rfl⟩)) ?_
                refine ML.look rfl rfl rfl (fun w hw => (by have hS := hS1.bel hw; exact opW.assignB rfl ⟨rfl, rfl⟩)) ?_
                refine ML.nil ?_
                refine thenQ_n (hK20 _ _ ?_)
                refine WC.seq (fun K21 hK21 => ?_)
                refine WC.seq (fun K22 hK22 => ?_)
                refine WC.region ?_
                refine WL.op rfl (opW.moveB rfl ?_)
                refine WL.op rfl (opW.moveB rfl ?_)
                refine WL.gd _ 92 _ rfl rfl rfl rfl (fun hg93 => opW.moveV (v := v26) rfl ⟨rfl, Bel.refl _⟩) (fun w hw => ?_)
                replace hS := hS.bel hw
                refine WL.gd _ 92 _ rfl rfl rfl rfl (fun hg94 => opW.moveI rfl ⟨rfl, Bel.refl _⟩) (fun w hw => ?_)
                replace hS := hS.bel hw
                refine WL.gd _ 92 _ rfl rfl rfl rfl (fun hg95 => opW.idxV (by first | exact gv_of rfl hg95 | rfl) ((hS.sl (xs := ((allL m keys ws rs).map fixR)) (by first | exact .here | exact .there (.here) | exact .there (.there (.here)) | exact .there (.there (.there (.here))) | exact .there (.there (.there (.there (.here)))) | exact .there (.there (.there (.there (.there (.here))))) | exact .there (.there (.there (.there (.there (.there (.here)))))) | exact .there (.there (.there (.there (.there (.there (.there (.here))))))) | exact .there (.there (.there (.there (.there (.there (.there (.there (.here)))))))) | exact .there (.there (.there (.there (.there (.there (.there (.there (.there (.here))))))))) | exact .there (.there (.there (.there (.there (.there (.there (.there (.there (.there (.here)))))))))) | exact .there (.there (.there (.there (.there (.there (.there (.there (.there (.there (.there (.here))))))))))) | exact .there (.there (.there (.there (.there (.there (.there (.there (.there (.there (.there (.there (.here))))))))))))))) (by first | exact gv_of rfl hg95 | rfl) (by omega) ⟨rfl, Bel.refl _⟩) (fun w hw => ?_)
                replace hS := hS.bel hw
                refine WL.gd _ 92 _ rfl rfl rfl rfl (fun hg96 => opW.fieldAddr (by first | exact gv_of rfl hg96 | rfl) ((hS.sl (xs := ((allL m keys ws rs).map fixR)) (by first | exact .here | exact .there (.here) | exact .there (.there (.here)) | exact .there (.there (.there (.here))) | exact .there (.there (.there (.there (.here)))) | exact .there (.there (.there (.there (.there (.here))))) | exact .there (.there (.there (.there (.there (.there (.here)))))) | exact .there (.there (.there (.there (.there (.there (.there (.here))))))) | exact .there (.there (.there (.there (.there (.there (.there (.there (.here)))))))) | exact .there (.there (.there (.there (.there (.there (.there (.there (.there (.here))))))))) | exact .there (.there (.there (.there (.there (.there (.there (.there (.there (.there (.here)))))))))) | exact .there (.there (.there (.there (.there (.there (.there (.there (.there (.there (.there (.here))))))))))) | exact .there (.there (.there (.there (.there (.there (.there (.there (.there (.there (.there (.there (.here)))))))))))))).isP hkF) ⟨rfl, Bel.refl _⟩) (fun w hw => ?_)
                replace hS := hS.bel hw
                refine WL.gd _ 92 _ rfl rfl rfl rfl (fun hg97 => opW.loadV (by first | exact gv_of rfl hg97 | rfl) (Ld.pt1 ((hS.sl (xs := ((allL m keys ws rs).map fixR)) (by first | exact .here | exact .there (.here) | exact .there (.there (.here)) | exact .there (.there (.there (.here))) | exact .there (.there (.there (.there (.here)))) | exact .there (.there (.there (.there (.there (.here))))) | exact .there (.there (.there (.there (.there (.there (.here)))))) | exact .there (.there (.there (.there (.there (.there (.there (.here))))))) | exact .there (.there (.there (.there (.there (.there (.there (.there (.here)))))))) | exact .there (.there (.there (.there (.there (.there (.there (.there (.there (.here))))))))) | exact .there (.there (.there (.there (.there (.there (.there (.there (.there (.there (.here)))))))))) | exact .there (.there (.there (.there (.there (.there (.there (.there (.there (.there (.there (.here))))))))))) | exact .there (.there (.there (.there (.there (.there (.there (.there (.there (.there (.there (.there (.here)))))))))))))).isPt hkF) 33 (Role.at_writes _)) ⟨rfl, Bel.refl _⟩) (fun w hw => ?_)
                replace hS := hS.bel hw
                refine WL.op rfl (opW.pickAnd rfl (by first | rfl) rfl ?_)
                refine WL.nil ?_
                refine thenQ_n (hK22 _ _ ?_)
                refine WC.cond _ rfl (fun hc5 => ?_) (fun hc5 => ?_)
                ·
                  have hr5 := hc5
                  try simp only [decide_eq_true_eq, decide_eq_false_iff_not, Bool.and_eq_true, Bool.or_eq_true, Bool.and_eq_false_iff, Bool.or_eq_false_iff, Bool.not_eq_true', Bool.not_eq_false', Int.not_lt, Int.not_le] at hc5
                  rw [hFk] at hr5
                  have hh : (isKnown (allL m keys ws rs)[k].key && ((allL m keys ws rs)[k].writes && !isKnown (allL m keys ws rs)[k].key)) = true := hr5
                  revert hh
                  cases isKnown (allL m keys ws rs)[k].key <;> simp
                ·
                  have hr5 := hc5
                  try simp only [decide_eq_true_eq, decide_eq_false_iff_not, Bool.and_eq_true, Bool.or_eq_true, Bool.and_eq_false_iff, Bool.or_eq_false_iff, Bool.not_eq_true', Bool.not_eq_false', Int.not_lt, Int.not_le] at hc5
                  refine WC.skip ?_
                  refine thenQ_n (hK21 _ _ ?_)
                  refine WC.seq (fun K23 hK23 => ?_)
                  refine WC.region ?_
                  refine WL.op rfl (opW.moveI rfl ?_)
                  refine WL.op rfl (opW.fieldAddrB rfl ?_)
                  refine WL.op rfl (opW.loadV rfl (hS.ld1 (by first | exact .here | exact .there (.here) | exact .there (.there (.here)) | exact .there (.there (.there (.here))) | exact .there (.there (.there (.there (.here)))) | exact .there (.there (.there (.there (.there (.here))))) | exact .there (.there (.there (.there (.there (.there (.here)))))) | exact .there (.there (.there (.there (.there (.there (.there (.here))))))) | exact .there (.there (.there (.there (.there (.there (.there (.there (.here)))))))) | exact .there (.there (.there (.there (.there (.there (.there (.there (.there (.here))))))))) | exact .there (.there (.there (.there (.there (.there (.there (.there (.there (.there (.here)))))))))) | exact .there (.there (.there (.there (.there (.there (.there (.there (.there (.there (.there (.here))))))))))) | exact .there (.there (.there (.there (.there (.there (.there (.there (.there (.there (.there (.there (.here))))))))))))) (Header.at_signers _)) ?_)
                  refine WL.op rfl (opW.conv rfl (wrap_i64 (by omega)) ?_)
                  refine WL.op rfl (opW.lss rfl rfl ?_)
                  refine WL.op rfl (opW.moveB rfl ?_)
                  refine WL.gd _ 104 _ rfl rfl rfl rfl (fun hg105 => opW.moveI rfl ⟨rfl, Bel.refl _⟩) (fun w hw => ?_)
                  replace hS := hS.bel hw
                  refine WL.gd _ 104 _ rfl rfl rfl rfl (fun hg106 => opW.fieldAddrB rfl ⟨rfl, Bel.refl _⟩) (fun w hw => ?_)
                  replace hS := hS.bel hw
                  refine WL.gd _ 104 _ rfl rfl rfl rfl (fun hg107 => opW.loadV (by first | exact gv_of rfl hg107 | rfl) (hS.ld1 (by first | exact .here | exact .there (.here) | exact .there (.there (.here)) | exact .there (.there (.there (.here))) | exact .there (.there (.there (.there (.here)))) | exact .there (.there (.there (.there (.there (.here))))) | exact .there (.there (.there (.there (.there (.there (.here)))))) | exact .there (.there (.there (.there (.there (.there (.there (.here))))))) | exact .there (.there (.there (.there (.there (.there (.there (.there (.here)))))))) | exact .there (.there (.there (.there (.there (.there (.there (.there (.there (.here))))))))) | exact .there (.there (.there (.there (.there (.there (.there (.there (.there (.there (.here)))))))))) | exact .there (.there (.there (.there (.there (.there (.there (.there (.there (.there (.there (.here))))))))))) | exact .there (.there (.there (.there (.there (.there (.there (.there (.there (.there (.there (.there (.here))))))))))))) (Header.at_signers _)) ⟨rfl, Bel.refl _⟩) (fun w hw => ?_)
                  replace hS := hS.bel hw
                  refine WL.gd _ 104 _ rfl rfl rfl rfl (fun hg108 => opW.conv (by first | exact gv_of rfl hg108 | rfl) (wrap_i64 (by omega)) ⟨rfl, Bel.refl _⟩) (fun w hw => ?_)
                  replace hS := hS.bel hw
                  refine WL.gd _ 104 _ rfl rfl rfl rfl (fun hg109 => opW.fieldAddrB rfl ⟨rfl, Bel.refl _⟩) (fun w hw => ?_)
                  replace hS := hS.bel hw
                  refine WL.gd _ 104 _ rfl rfl rfl rfl (fun hg110 => opW.loadV (by first | exact gv_of rfl hg110 | rfl) (hS.ld1 (by first | exact .here | exact .there (.here) | exact .there (.there (.here)) | exact .there (.there (.there (.here))) | exact .there (.there (.there (.there (.here)))) | exact .there (.there (.there (.there (.there (.here))))) | exact .there (.there (.there (.there (.there (.there (.here)))))) | exact .there (.there (.there (.there (.there (.there (.there (.here))))))) | exact .there (.there (.there (.there (.there (.there (.there (.there (.here)))))))) | exact .there (.there (.there (.there (.there (.there (.there (.there (.there (.here))))))))) | exact .there (.there (.there (.there (.there (.there (.there (.there (.there (.there (.here)))))))))) | exact .there (.there (.there (.there (.there (.there (.there (.there (.there (.there (.there (.here))))))))))) | exact .there (.there (.there (.there (.there (.there (.there (.there (.there (.there (.there (.there (.here))))))))))))) (Header.at_readSigned _)) ⟨rfl, Bel.refl _⟩) (fun w hw => ?_)
                  replace hS := hS.bel hw
                  refine WL.gd _ 104 _ rfl rfl rfl rfl (fun hg111 => opW.conv (by first | exact gv_of rfl hg111 | rfl) (wrap_i64 (by omega)) ⟨rfl, Bel.refl _⟩) (fun w hw => ?_)
                  replace hS := hS.bel hw
                  refine WL.gd _ 104 _ rfl rfl rfl rfl (fun hg112 => opW.sub (by first | exact gv_of rfl hg112 | rfl) (by first | exact gv_of rfl hg112 | rfl) (wrap_i64 (by omega)) ⟨rfl, Bel.refl _⟩) (fun w hw => ?_)
                  replace hS := hS.bel hw
                  refine WL.gd _ 104 _ rfl rfl rfl rfl (fun hg113 => opW.geq (by first | exact gv_of rfl hg113 | rfl) (by first | exact gv_of rfl hg113 | rfl) ⟨rfl, Bel.refl _⟩) (fun w hw => ?_)
                  replace hS := hS.bel hw
                  refine WL.op rfl (opW.pickAnd rfl (by first | rfl) rfl ?_)
                  refine WL.op rfl (opW.moveB rfl ?_)
                  refine WL.gd _ 115 _ rfl rfl rfl rfl (fun hg116 => opW.moveI rfl ⟨rfl, Bel.refl _⟩) (fun w hw => ?_)
                  replace hS := hS.bel hw
                  refine WL.gd _ 115 _ rfl rfl rfl rfl (fun hg117 => opW.moveI rfl ⟨rfl, Bel.refl _⟩) (fun w hw => ?_)
                  replace hS := hS.bel hw
                  refine WL.gd _ 115 _ rfl rfl rfl rfl (fun hg118 => opW.lss (by first | exact gv_of rfl hg118 | rfl) (by first | exact gv_of rfl hg118 | rfl) ⟨rfl, Bel.refl _⟩) (fun w hw => ?_)
                  replace hS := hS.bel hw
                  refine WL.gd _ 115 _ rfl rfl rfl rfl (fun hg119 => opW.moveB (by first | exact gv_of rfl hg119 | rfl) ⟨rfl, Bel.refl _⟩) (fun w hw => ?_)
                  replace hS := hS.bel hw
                  refine WL.gd2 _ _ 119 _ rfl rfl rfl rfl (fun hg120 => opW.moveI rfl ⟨rfl, Bel.refl _⟩) (fun w hw => ?_)
                  replace hS := hS.bel hw
                  refine WL.gd2 _ _ 119 _ rfl rfl rfl rfl (fun hg121 => opW.moveI rfl ⟨rfl, Bel.refl _⟩) (fun w hw => ?_)
                  replace hS := hS.bel hw
                  refine WL.gd2 _ _ 119 _ rfl rfl rfl rfl (fun hg122 => opW.fieldAddrB rfl ⟨rfl, Bel.refl _⟩) (fun w hw => ?_)
                  replace hS := hS.bel hw
                  refine WL.gd2 _ _ 119 _ rfl rfl rfl rfl (fun hg123 => opW.loadV (by first | exact gv_of rfl hg123 | rfl) (hS.ld1 (by first | exact .here | exact .there (.here) | exact .there (.there (.here)) | exact .there (.there (.there (.here))) | exact .there (.there (.there (.there (.here)))) | exact .there (.there (.there (.there (.there (.here))))) | exact .there (.there (.there (.there (.there (.there (.here)))))) | exact .there (.there (.there (.there (.there (.there (.there (.here))))))) | exact .there (.there (.there (.there (.there (.there (.there (.there (.here)))))))) | exact .there (.there (.there (.there (.there (.there (.there (.there (.there (.here))))))))) | exact .there (.there (.there (.there (.there (.there (.there (.there (.there (.there (.here)))))))))) | exact .there (.there (.there (.there (.there (.there (.there (.there (.there (.there (.there (.here))))))))))) | exact .there (.there (.there (.there (.there (.there (.there (.there (.there (.there (.there (.there (.here))))))))))))) (Header.at_readOther _)) ⟨rfl, Bel.refl _⟩) (fun w hw => ?_)
                  replace hS := hS.bel hw
                  refine WL.gd2 _ _ 119 _ rfl rfl rfl rfl (fun hg124 => opW.conv (by first | exact gv_of rfl hg124 | rfl) (wrap_i64 (by omega)) ⟨rfl, Bel.refl _⟩) (fun w hw => ?_)
                  replace hS := hS.bel hw
                  refine WL.gd2 _ _ 119 _ rfl rfl rfl rfl (fun hg125 => opW.sub (by first | exact gv_of rfl hg125 | rfl) (by first | exact gv_of rfl hg125 | rfl) (wrap_i64 (by omega)) ⟨rfl, Bel.refl _⟩) (fun w hw => ?_)
                  replace hS := hS.bel hw
                  refine WL.gd2 _ _ 119 _ rfl rfl rfl rfl (fun hg126 => opW.geq (by first | exact gv_of rfl hg126 | rfl) (by first | exact gv_of rfl hg126 | rfl) ⟨rfl, Bel.refl _⟩) (fun w hw => ?_)
                  replace hS := hS.bel hw
                  refine WL.gd _ 115 _ rfl rfl rfl rfl (fun hg127 => opW.pickAnd (by first | rfl | exact gv_of rfl hg127) (by first | rfl | exact gv_and rfl hg127) rfl ⟨rfl, Bel.refl _⟩) (fun w hw => ?_)
                  replace hS := hS.bel hw
                  refine WL.op rfl (opW.pickOr rfl rfl (by first | rfl) ?_)
                  refine WL.op rfl (opW.moveB rfl ?_)
                  refine WL.gd _ 129 _ rfl rfl rfl rfl (fun hg130 => opW.moveI rfl ⟨rfl, Bel.refl _⟩) (fun w hw => ?_)
                  replace hS := hS.bel hw
                  refine WL.gd _ 129 _ rfl rfl rfl rfl (fun hg131 => opW.moveI rfl ⟨rfl, Bel.refl _⟩) (fun w hw => ?_)
                  replace hS := hS.bel hw
                  refine WL.gd _ 129 _ rfl rfl rfl rfl (fun hg132 => opW.moveV (v := v1) rfl ⟨rfl, Bel.refl _⟩) (fun w hw => ?_)
                  replace hS := hS.bel hw
                  refine WL.gd _ 129 _ rfl rfl rfl rfl (fun hg133 => opW.lenV (by first | exact gv_of rfl hg133 | rfl) ((hws.bel hS.old)) ⟨rfl, Bel.refl _⟩) (fun w hw => ?_)
                  replace hS := hS.bel hw
                  refine WL.gd _ 129 _ rfl rfl rfl rfl (fun hg134 => opW.add (by first | exact gv_of rfl hg134 | rfl) (by first | exact gv_of rfl hg134 | rfl) (wrap_i64 (by omega)) ⟨rfl, Bel.refl _⟩) (fun w hw => ?_)
                  replace hS := hS.bel hw
                  refine WL.gd _ 129 _ rfl rfl rfl rfl (fun hg135 => opW.geq (by first | exact gv_of rfl hg135 | rfl) (by first | exact gv_of rfl hg135 | rfl) ⟨rfl, Bel.refl _⟩) (fun w hw => ?_)
                  replace hS := hS.bel hw
                  refine WL.op rfl (opW.pickOr rfl rfl (by first | rfl) ?_)
                  refine WL.op rfl (opW.assignB rfl ?_)
                  refine WL.nil ?_
                  refine thenQ_n (hK23 _ _ ?_)
                  refine WC.seq (fun K24 hK24 => ?_)
                  refine WC.region ?_
                  refine WL.op rfl (opW.moveB rfl ?_)
                  refine WL.op rfl (opW.moveB rfl ?_)
                  refine WL.gd _ 138 _ rfl rfl rfl rfl (fun hg139 => opW.moveB rfl ⟨rfl, Bel.refl _⟩) (fun w hw => ?_)
                  replace hS := hS.bel hw
                  refine WL.gd _ 138 _ rfl rfl rfl rfl (fun hg140 => opW.not (by first | exact gv_of rfl hg140 | rfl) ⟨rfl, Bel.refl _⟩) (fun w hw => ?_)
                  replace hS := hS.bel hw
                  refine WL.op rfl (opW.pickAnd rfl (by first | rfl) rfl ?_)
                  refine WL.nil ?_
                  refine thenQ_n (hK24 _ _ ?_)
                  refine WC.cond _ rfl (fun hc6 => ?_) (fun hc6 => ?_)
                  ·
                    have hr6 := hc6
                    try simp only [decide_eq_true_eq, decide_eq_false_iff_not, Bool.and_eq_true, Bool.or_eq_true, Bool.and_eq_false_iff, Bool.or_eq_false_iff, Bool.not_eq_true', Bool.not_eq_false', Int.not_lt, Int.not_le] at hc6
                    rw [hFk] at hr6
                    have hp6 : (isKnown (allL m keys ws rs)[k].key && (allL m keys ws rs)[k].writes) = true := bool_pick hr6 hro
                    refine WC.region ?_
                    refine WL.op rfl (opW.moveI rfl ?_)
                    refine WL.op rfl (opW.add rfl rfl (wrap_i64 (by omega)) ?_)
                    refine WL.op rfl (opW.assignI rfl ?_)
                    refine WL.nil ?_
                    refine blockQ_n ?_
                    refine thenQ_n ?_
                    first | (rw [if_pos (hp6)] at st3; exact ⟨⟨rfl, rfl, rfl, rfl, rfl, rfl, rfl, congrArg (Value.int .i64) (by rw [st3]; omega), rfl, trivial⟩, hS.sub (by repeat (first | with_reducible exact List.nil_sublist _ | with_reducible exact List.Sublist.refl _ | with_reducible refine List.Sublist.cons₂ _ ?_ | with_reducible refine List.Sublist.cons _ ?_))⟩) | (rw [if_neg (by rw [hp6]; decide)] at st3; exact ⟨⟨rfl, rfl, rfl, rfl, rfl, rfl, rfl, congrArg (Value.int .i64) (by rw [st3]; omega), rfl, trivial⟩, hS.sub (by repeat (first | with_reducible exact List.nil_sublist _ | with_reducible exact List.Sublist.refl _ | with_reducible refine List.Sublist.cons₂ _ ?_ | with_reducible refine List.Sublist.cons _ ?_))⟩)
                  ·
                    have hr6 := hc6
                    try simp only [decide_eq_true_eq, decide_eq_false_iff_not, Bool.and_eq_true, Bool.or_eq_true, Bool.and_eq_false_iff, Bool.or_eq_false_iff, Bool.not_eq_true', Bool.not_eq_false', Int.not_lt, Int.not_le] at hc6
                    rw [hFk] at hr6
                    have hp6 : (isKnown (allL m keys ws rs)[k].key && (allL m keys ws rs)[k].writes) = false := bool_pick hr6 hro
                    refine WC.skip ?_
                    refine blockQ_n ?_
                    refine thenQ_n ?_
                    first | (rw [if_pos (hp6)] at st3; exact ⟨⟨rfl, rfl, rfl, rfl, rfl, rfl, rfl, congrArg (Value.int .i64) (by rw [st3]; omega), rfl, trivial⟩, hS.sub (by repeat (first | with_reducible exact List.nil_sublist _ | with_reducible exact List.Sublist.refl _ | with_reducible refine List.Sublist.cons₂ _ ?_ | with_reducible refine List.Sublist.cons _ ?_))⟩) | (rw [if_neg (by rw [hp6]; decide)] at st3; exact ⟨⟨rfl, rfl, rfl, rfl, rfl, rfl, rfl, congrArg (Value.int .i64) (by rw [st3]; omega), rfl, trivial⟩, hS.sub (by repeat (first | with_reducible exact List.nil_sublist _ | with_reducible exact List.Sublist.refl _ | with_reducible refine List.Sublist.cons₂ _ ?_ | with_reducible refine List.Sublist.cons _ ?_))⟩)
          ·
            rintro f w ⟨hfit, hS⟩
            refine WC.fits _ hfit (fun g => ?_)
            clear hfit
            refine WC.region ?_
            refine WL.op rfl (opW.moveI rfl ?_)
            refine WL.op rfl (opW.add rfl rfl (wrap_i64 (by omega)) ?_)
            refine WL.op rfl (opW.assignI rfl ?_)
            refine WL.nil ?_
            refine thenQ_n ?_
            exact ⟨(allL m keys ws rs).length - (k + 1), by omega, k + 1, ⟨rfl, rfl, rfl, rfl, rfl, rfl, rfl, rfl, congrArg (Value.int .i64) (by omega), trivial⟩, hS, by omega, rfl⟩
        ·
          have hr2 := hc2
          try simp only [decide_eq_true_eq, decide_eq_false_iff_not, Bool.and_eq_true, Bool.or_eq_true, Bool.and_eq_false_iff, Bool.or_eq_false_iff, Bool.not_eq_true', Bool.not_eq_false', Int.not_lt, Int.not_le] at hc2
          have hkk : k = (allL m keys ws rs).length := by omega
          have f1 : (((allL m keys ws rs).map fixR).take k).countP Role.signs = m.header.signers.toNat := by rw [List.take_of_length_le (by omega), fix_signs, all_signs _ _ _ _ (by omega)]
          have f2 := fix_split (allL m keys ws rs)
          have f3 := all_writes m keys ws rs hA hB
          have f4 : (((allL m keys ws rs).map fixR).take k).countP Role.writes = ((allL m keys ws rs).map fixR).countP Role.writes := by rw [List.take_of_length_le (by omega)]
          have f5 : ((allL m keys ws rs).take k).countP (fun r : Role => isKnown r.key && r.writes) = (allL m keys ws rs).countP (fun r : Role => isKnown r.key && r.writes) := by rw [List.take_of_length_le (by omega)]
          rw [f1, f4, f5]
          refine WC.exit ?_
          refine thenQ_e ?_
          refine thenQ_e ?_
          refine blockQ_hit ?_
          refine thenQ_n (hK14 _ _ ?_)
          refine WC.seq (fun K25 hK25 => ?_)
          refine WC.region ?_
          refine WL.op rfl (opW.moveV (v := v26) rfl ?_)
          refine WL.op rfl (opW.lenV rfl ((hS.sl (xs := ((allL m keys ws rs).map fixR)) (by first | exact .here | exact .there (.here) | exact .there (.there (.here)) | exact .there (.there (.there (.here))) | exact .there (.there (.there (.there (.here)))) | exact .there (.there (.there (.there (.there (.here))))) | exact .there (.there (.there (.there (.there (.there (.here)))))) | exact .there (.there (.there (.there (.there (.there (.there (.here))))))) | exact .there (.there (.there (.there (.there (.there (.there (.there (.here)))))))) | exact .there (.there (.there (.there (.there (.there (.there (.there (.there (.here))))))))) | exact .there (.there (.there (.there (.there (.there (.there (.there (.there (.there (.here)))))))))) | exact .there (.there (.there (.there (.there (.there (.there (.there (.there (.there (.there (.here))))))))))) | exact .there (.there (.there (.there (.there (.there (.there (.there (.there (.there (.there (.there (.here))))))))))))))) ?_)
          refine WL.op rfl (opW.moveI rfl ?_)
          refine WL.op rfl (opW.moveV (v := v1) rfl ?_)
          refine WL.op rfl (opW.lenV rfl ((hws.bel hS.old)) ?_)
          refine WL.op rfl (opW.add rfl rfl (wrap_i64 (by omega)) ?_)
          refine WL.op rfl (opW.moveV (v := v2) rfl ?_)
          refine WL.op rfl (opW.lenV rfl ((hrs.bel hS.old)) ?_)
          refine WL.op rfl (opW.add rfl rfl (wrap_i64 (by omega)) ?_)
          refine WL.op rfl (opW.boolT (by simp only [decide_eq_true_eq]; omega) (opW.eql rfl rfl ⟨rfl, rfl⟩) ?_)
          refine WL.op rfl (opW.moveB rfl ?_)
          refine WL.gT 154 rfl rfl rfl (WL.op rfl (opW.moveI rfl ?_))
          refine WL.gT 154 rfl rfl rfl (WL.op rfl (opW.fieldAddrB rfl ?_))
          refine WL.gT 154 rfl rfl rfl (WL.op rfl (opW.loadV rfl (hS.ld1 (by first | exact .here | exact .there (.here) | exact .there (.there (.here)) | exact .there (.there (.there (.here))) | exact .there (.there (.there (.there (.here)))) | exact .there (.there (.there (.there (.there (.here))))) | exact .there (.there (.there (.there (.there (.there (.here)))))) | exact .there (.there (.there (.there (.there (.there (.there (.here))))))) | exact .there (.there (.there (.there (.there (.there (.there (.there (.here)))))))) | exact .there (.there (.there (.there (.there (.there (.there (.there (.there (.here))))))))) | exact .there (.there (.there (.there (.there (.there (.there (.there (.there (.there (.here)))))))))) | exact .there (.there (.there (.there (.there (.there (.there (.there (.there (.there (.there (.here))))))))))) | exact .there (.there (.there (.there (.there (.there (.there (.there (.there (.there (.there (.there (.here))))))))))))) (Header.at_signers _)) ?_))
          refine WL.gT 154 rfl rfl rfl (WL.op rfl (opW.conv rfl (wrap_i64 (by omega)) ?_))
          refine WL.gT 154 rfl rfl rfl (WL.op rfl (opW.boolT (by simp) (opW.eql rfl rfl ⟨rfl, rfl⟩) ?_))
          refine WL.op rfl (opW.pickT rfl rfl ?_)
          refine WL.op rfl (opW.moveB rfl ?_)
          refine WL.gT 161 rfl rfl rfl (WL.op rfl (opW.moveI rfl ?_))
          refine WL.gT 161 rfl rfl rfl (WL.op rfl (opW.moveI rfl ?_))
          refine WL.gT 161 rfl rfl rfl (WL.op rfl (opW.fieldAddrB rfl ?_))
          refine WL.gT 161 rfl rfl rfl (WL.op rfl (opW.loadV rfl (hS.ld1 (by first | exact .here | exact .there (.here) | exact .there (.there (.here)) | exact .there (.there (.there (.here))) | exact .there (.there (.there (.there (.here)))) | exact .there (.there (.there (.there (.there (.here))))) | exact .there (.there (.there (.there (.there (.there (.here)))))) | exact .there (.there (.there (.there (.there (.there (.there (.here))))))) | exact .there (.there (.there (.there (.there (.there (.there (.there (.here)))))))) | exact .there (.there (.there (.there (.there (.there (.there (.there (.there (.here))))))))) | exact .there (.there (.there (.there (.there (.there (.there (.there (.there (.there (.here)))))))))) | exact .there (.there (.there (.there (.there (.there (.there (.there (.there (.there (.there (.here))))))))))) | exact .there (.there (.there (.there (.there (.there (.there (.there (.there (.there (.there (.there (.here))))))))))))) (Header.at_readSigned _)) ?_))
          refine WL.gT 161 rfl rfl rfl (WL.op rfl (opW.conv rfl (wrap_i64 (by omega)) ?_))
          refine WL.gT 161 rfl rfl rfl (WL.op rfl (opW.sub rfl rfl (wrap_i64 (by omega)) ?_))
          refine WL.gT 161 rfl rfl rfl (WL.op rfl (opW.fieldAddrB rfl ?_))
          refine WL.gT 161 rfl rfl rfl (WL.op rfl (opW.loadV rfl (hS.ld1 (by first | exact .here | exact .there (.here) | exact .there (.there (.here)) | exact .there (.there (.there (.here))) | exact .there (.there (.there (.there (.here)))) | exact .there (.there (.there (.there (.there (.here))))) | exact .there (.there (.there (.there (.there (.there (.here)))))) | exact .there (.there (.there (.there (.there (.there (.there (.here))))))) | exact .there (.there (.there (.there (.there (.there (.there (.there (.here)))))))) | exact .there (.there (.there (.there (.there (.there (.there (.there (.there (.here))))))))) | exact .there (.there (.there (.there (.there (.there (.there (.there (.there (.there (.here)))))))))) | exact .there (.there (.there (.there (.there (.there (.there (.there (.there (.there (.there (.here))))))))))) | exact .there (.there (.there (.there (.there (.there (.there (.there (.there (.there (.there (.there (.here))))))))))))) (Header.at_readOther _)) ?_))
          refine WL.gT 161 rfl rfl rfl (WL.op rfl (opW.conv rfl (wrap_i64 (by omega)) ?_))
          refine WL.gT 161 rfl rfl rfl (WL.op rfl (opW.sub rfl rfl (wrap_i64 (by omega)) ?_))
          refine WL.gT 161 rfl rfl rfl (WL.op rfl (opW.moveV (v := v1) rfl ?_))
          refine WL.gT 161 rfl rfl rfl (WL.op rfl (opW.lenV rfl ((hws.bel hS.old)) ?_))
          refine WL.gT 161 rfl rfl rfl (WL.op rfl (opW.add rfl rfl (wrap_i64 (by omega)) ?_))
          refine WL.gT 161 rfl rfl rfl (WL.op rfl (opW.moveI rfl ?_))
          refine WL.gT 161 rfl rfl rfl (WL.op rfl (opW.sub rfl rfl (wrap_i64 (by omega)) ?_))
          refine WL.gT 161 rfl rfl rfl (WL.op rfl (opW.boolT (by simp only [decide_eq_true_eq]; omega) (opW.eql rfl rfl ⟨rfl, rfl⟩) ?_))
          refine WL.op rfl (opW.pickT rfl rfl ?_)
          refine WL.op rfl (opW.moveB rfl ?_)
          refine WL.gT 179 rfl rfl rfl (WL.op rfl (opW.moveV (v := v26) rfl ?_))
          refine WL.gT 179 rfl rfl rfl (WL.op rfl (opW.call (written_ok _ _ ((allL m keys ws rs).map fixR) (hS.sl (xs := ((allL m keys ws rs).map fixR)) (by first | exact .here | exact .there (.here) | exact .there (.there (.here)) | exact .there (.there (.there (.here))) | exact .there (.there (.there (.there (.here)))) | exact .there (.there (.there (.there (.there (.here))))) | exact .there (.there (.there (.there (.there (.there (.here)))))) | exact .there (.there (.there (.there (.there (.there (.there (.here))))))) | exact .there (.there (.there (.there (.there (.there (.there (.there (.here)))))))) | exact .there (.there (.there (.there (.there (.there (.there (.there (.there (.here))))))))) | exact .there (.there (.there (.there (.there (.there (.there (.there (.there (.there (.here)))))))))) | exact .there (.there (.there (.there (.there (.there (.there (.there (.there (.there (.there (.here))))))))))) | exact .there (.there (.there (.there (.there (.there (.there (.there (.there (.there (.there (.there (.here)))))))))))))) (by omega)) rfl ?_))
          rintro v181 w ⟨hv181, hw⟩
          replace hS := hS.newOwn hw hv181.1 hv181.2
          refine WL.gT 179 rfl rfl rfl (WL.op rfl (opW.lenV rfl (hS.sl (xs := wrL ((allL m keys ws rs).map fixR)) (by first | exact .here | exact .there (.here) | exact .there (.there (.here)) | exact .there (.there (.there (.here))) | exact .there (.there (.there (.there (.here)))) | exact .there (.there (.there (.there (.there (.here))))) | exact .there (.there (.there (.there (.there (.there (.here)))))) | exact .there (.there (.there (.there (.there (.there (.there (.here))))))) | exact .there (.there (.there (.there (.there (.there (.there (.there (.here)))))))) | exact .there (.there (.there (.there (.there (.there (.there (.there (.there (.here))))))))) | exact .there (.there (.there (.there (.there (.there (.there (.there (.there (.there (.here)))))))))) | exact .there (.there (.there (.there (.there (.there (.there (.there (.there (.there (.there (.here))))))))))) | exact .there (.there (.there (.there (.there (.there (.there (.there (.there (.there (.there (.there (.here)))))))))))))) ?_))
          refine WL.gT 179 rfl rfl rfl (WL.op rfl (opW.moveI rfl ?_))
          refine WL.gT 179 rfl rfl rfl (WL.op rfl (opW.boolT (by rw [wrL_count]; simp) (opW.eql rfl rfl ⟨rfl, rfl⟩) ?_))
          refine WL.op rfl (opW.pickT rfl rfl ?_)
          refine WL.op rfl (opW.moveB rfl ?_)
          refine WL.gT 186 rfl rfl rfl (WL.op rfl (opW.call (lives7 _) rfl ?_))
          rintro _ w ⟨rfl, hw⟩; replace hS := hS.bel hw
          refine WL.op rfl (opW.pickT rfl rfl ?_)
          refine WL.op rfl (opW.assignB rfl ?_)
          refine WL.nil ?_
          refine thenQ_n (hK25 _ _ ?_)
          refine WC.ret ?_
          refine bodyQ_ret (.tmpB rfl .nil) ?_
          exact ⟨rfl, hS.old⟩

end Go.Fer
