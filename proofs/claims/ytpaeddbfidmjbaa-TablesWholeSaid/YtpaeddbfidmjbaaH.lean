/- TablesWhole -/
import Derived.Test.YtpaeddbfidmjbaaD
set_option linter.all false
namespace Go.Fer
open Go Go.Proofs Go.RowKit

theorem SlR.slv {α : Type} [Enc α] {w : World} {v : Value} {xs : List α} (h : SlR w v xs) : ∃ s : SlV, v = s.v := by
  obtain ⟨a, c, h⟩ := h.eq
  exact ⟨⟨a, xs.length, c⟩, h⟩
def idxs (n : Nat) : List UInt8 := (List.range n).map UInt8.ofNat
theorem idxs_len (n : Nat) : (idxs n).length = n := by simp [idxs]
theorem idxs_succ (n : Nat) : idxs (n + 1) = idxs n ++ [UInt8.ofNat n] := by simp [idxs, List.range_succ]
theorem u8n {n : Nat} (h : n < 256) : (UInt8.ofNat n).toNat = n := by rw [UInt8.toNat_ofNat']; omega
theorem pick_idxs (l : List Key) (h : l.length ≤ 256) : ∀ n, n ≤ l.length → pick l (idxs n) = some (l.take n)
  | 0, _ => rfl
  | n + 1, hn => by
    rw [idxs_succ, pick_append, pick_idxs l h n (by omega)]
    have hu := u8n (n := n) (by omega)
    simp only [pick, hu, List.getElem?_eq_getElem (show n < l.length by omega)]
    rw [List.take_succ_eq_append_getElem (show n < l.length by omega)]
theorem res_whole {find : Key → Option (List Key)} {t : Key} {l : List Key} (hf : find t = some l) (h : l.length ≤ 256) : resF find [⟨t, idxs l.length, []⟩, ⟨t, [], idxs l.length⟩] = .ok l l := by
  have hp := pick_idxs l h l.length (Nat.le_refl _)
  rw [List.take_length] at hp
  simp [resF, hf, hp, pick]
theorem res_beyond {find : Key → Option (List Key)} {t : Key} {l : List Key} (hf : find t = some l) (h : l.length < 256) : resF find [⟨t, [UInt8.ofNat l.length], []⟩] = .err 8 := by
  have hu := u8n h
  have hn : l[(UInt8.ofNat l.length).toNat]? = none := List.getElem?_eq_none (by omega)
  simp only [resF, hf, pick, hn]
theorem wrap_u8n {n : Nat} (h : n < 256) : IntKind.u8.wrap (n : Int) = ((UInt8.ofNat n).toNat : Int) := by
  rw [u8n h, wrap_u8 (by omega)]

theorem whole_law (w0 : World) (v : Value) (xs : List Act) (ac : Nat → AcM) (i : Nat) (hi8 : i ≤ 255) (hx : SlR w0 v xs) (hac : ∀ i (hi : i < xs.length), AcIs w0 (xs[i]'hi) (ac i)) : Ret Try.prog 5 #[v, .int .u8 (i : Int)] w0 (fun r w' => r = .bool true ∧ Bel w0 w') := by
  refine Ret.enter (args := [v, .int .u8 (i : Int)]) Try.func5 rfl Try.ntmps5 Try.results5 rfl ?_
  have hS := St.start w0
  refine WC.seq (fun K1 hK1 => ?_)
  refine WC.region ?_
  refine WL.op rfl (opW.assignB rfl ?_)
  refine WL.nil ?_
  refine thenQ_n (hK1 _ _ ?_)
  refine WC.seq (fun K2 hK2 => ?_)
  refine WC.seq (fun K3 hK3 => ?_)
  refine WC.region ?_
  refine WL.op rfl (opW.moveV (v := v) rfl ?_)
  refine WL.op rfl (opW.call (great_ok _ v xs ac (hx.bel hS.old) (fun i hi => (hac i hi).bel hS.old)) rfl ?_)
  rintro _ w ⟨rfl, hw⟩; replace hS := hS.bel hw
  refine WL.op rfl (opW.moveB rfl ?_)
  refine WL.gd _ 22 _ rfl rfl rfl rfl (fun hg23 => opW.moveV (v := v) rfl ⟨rfl, Bel.refl _⟩) (fun w hw => ?_)
  replace hS := hS.bel hw
  refine WL.gd _ 22 _ rfl rfl rfl rfl (fun hg24 => opW.lenV (by first | exact gv_of rfl hg24 | rfl) ((hx.bel hS.old)) ⟨rfl, Bel.refl _⟩) (fun w hw => ?_)
  replace hS := hS.bel hw
  refine WL.gd _ 22 _ rfl rfl rfl rfl (fun hg25 => opW.eql (by first | exact gv_of rfl hg25 | rfl) rfl ⟨rfl, Bel.refl _⟩) (fun w hw => ?_)
  replace hS := hS.bel hw
  refine WL.op rfl (opW.pickOr rfl rfl (by first | rfl) ?_)
  refine WL.nil ?_
  refine thenQ_n (hK3 _ _ ?_)
  refine WC.cond _ rfl (fun hc0 => ?_) (fun hc0 => ?_)
  ·
    have hr0 := hc0
    try simp only [decide_eq_true_eq, decide_eq_false_iff_not, Bool.and_eq_true, Bool.or_eq_true, Bool.and_eq_false_iff, Bool.or_eq_false_iff, Bool.not_eq_true', Bool.not_eq_false', Int.not_lt, Int.not_le] at hc0
    refine WC.seq (fun K4 hK4 => ?_)
    refine WC.region ?_
    refine WL.op rfl (opW.call (lives06 _) rfl ?_)
    rintro _ w ⟨rfl, hw⟩; replace hS := hS.bel hw
    refine WL.op rfl (opW.assignB rfl ?_)
    refine WL.nil ?_
    refine thenQ_n (hK4 _ _ ?_)
    refine WC.ret ?_
    refine thenQ_r ?_
    refine bodyQ_ret (.tmpB rfl .nil) ?_
    exact ⟨rfl, hS.old⟩
  ·
    have hr0 := hc0
    try simp only [decide_eq_true_eq, decide_eq_false_iff_not, Bool.and_eq_true, Bool.or_eq_true, Bool.and_eq_false_iff, Bool.or_eq_false_iff, Bool.not_eq_true', Bool.not_eq_false', Int.not_lt, Int.not_le] at hc0
    rw [Bool.or_eq_false_iff] at hr0
    have hpos : 0 < xs.length := by
      have := hr0.2; simp at this; exact List.length_pos_iff.2 this
    have hle := hx.le
    simp only [maxLen] at hle
    obtain ⟨j, hj⟩ : ∃ j, j = i % xs.length := ⟨_, rfl⟩
    have hjl : j < xs.length := hj ▸ Nat.mod_lt _ hpos
    refine WC.skip ?_
    refine thenQ_n (hK2 _ _ ?_)
    refine WC.seq (fun K5 hK5 => ?_)
    refine WC.region ?_
    refine WL.op rfl (opW.moveV (v := v) rfl ?_)
    refine WL.op rfl (opW.call (made_ok _ v xs ac (hx.bel hS.old) (fun i hi => (hac i hi).bel hS.old)) rfl ?_)
    rintro _ w ⟨p, d, rfl, hok, hn0, hw⟩
    replace hS := hS.newE hw hn0
    refine WL.op rfl (opW.assignV (v := .pointer (some ⟨p, 0, none⟩)) rfl ?_)
    refine WL.nil ?_
    refine thenQ_n (hK5 _ _ ?_)
    refine WC.seq (fun K6 hK6 => ?_)
    refine WC.region ?_
    refine WL.op rfl (opW.moveV (v := v) rfl ?_)
    refine WL.op rfl (opW.moveI rfl ?_)
    refine WL.op rfl (opW.conv rfl (wrap_i64 (by omega)) ?_)
    refine WL.op rfl (opW.moveV (v := v) rfl ?_)
    refine WL.op rfl (opW.lenV rfl ((hx.bel hS.old)) ?_)
    refine WL.op rfl (opW.rem rfl rfl (by omega) ((by rw [hj]; rfl : _ = (j : Int))) ?_)
    refine WL.op rfl (opW.idxV rfl ((hx.bel hS.old)) rfl (by omega) ?_)
    refine WL.op rfl (opW.fieldAddr rfl ((hx.bel hS.old).isP hjl) ?_)
    refine WL.op rfl (opW.loadV rfl (Ld.ptA ((hx.bel hS.old).isPt hjl) 1 (Act.ex_table _) (by rw [Enc.size_eq]; decide)) ?_)
    refine WL.op rfl (opW.allocA hS ?_)
    intro b6 w _ hS
    refine WL.op0 (opW.storeE hS rfl rfl (by first | exact .here | exact .there (.here) | exact .there (.there (.here)) | exact .there (.there (.there (.here))) | exact .there (.there (.there (.there (.here)))) | exact .there (.there (.there (.there (.there (.here))))) | exact .there (.there (.there (.there (.there (.there (.here)))))) | exact .there (.there (.there (.there (.there (.there (.there (.here))))))) | exact .there (.there (.there (.there (.there (.there (.there (.there (.here)))))))) | exact .there (.there (.there (.there (.there (.there (.there (.there (.there (.here))))))))) | exact .there (.there (.there (.there (.there (.there (.there (.there (.there (.there (.here)))))))))) | exact .there (.there (.there (.there (.there (.there (.there (.there (.there (.there (.there (.here))))))))))) | exact .there (.there (.there (.there (.there (.there (.there (.there (.there (.there (.there (.there (.here))))))))))))) (by first | rfl | exact Enc.size_eq _) ?_)
    intro w hS; replace hS := hS _ (by first | exact .here | exact .there (.here) | exact .there (.there (.here)) | exact .there (.there (.there (.here))) | exact .there (.there (.there (.there (.here)))) | exact .there (.there (.there (.there (.there (.here))))) | exact .there (.there (.there (.there (.there (.there (.here)))))) | exact .there (.there (.there (.there (.there (.there (.there (.here))))))) | exact .there (.there (.there (.there (.there (.there (.there (.there (.here)))))))) | exact .there (.there (.there (.there (.there (.there (.there (.there (.there (.here))))))))) | exact .there (.there (.there (.there (.there (.there (.there (.there (.there (.there (.here)))))))))) | exact .there (.there (.there (.there (.there (.there (.there (.there (.there (.there (.there (.here))))))))))) | exact .there (.there (.there (.there (.there (.there (.there (.there (.there (.there (.there (.there (.here)))))))))))))
    refine WL.nil ?_
    refine thenQ_n (hK6 _ _ ?_)
    refine WC.seq (fun K7 hK7 => ?_)
    refine WC.region ?_
    refine WL.op rfl (opW.moveV (v := .pointer (some ⟨p, 0, none⟩)) rfl ?_)
    refine WL.op rfl (opW.loadV rfl (hS.ldA (cs := Enc.enc xs[j].table) (by first | exact .here | exact .there (.here) | exact .there (.there (.here)) | exact .there (.there (.there (.here))) | exact .there (.there (.there (.there (.here)))) | exact .there (.there (.there (.there (.there (.here))))) | exact .there (.there (.there (.there (.there (.there (.here)))))) | exact .there (.there (.there (.there (.there (.there (.there (.here))))))) | exact .there (.there (.there (.there (.there (.there (.there (.there (.here)))))))) | exact .there (.there (.there (.there (.there (.there (.there (.there (.there (.here))))))))) | exact .there (.there (.there (.there (.there (.there (.there (.there (.there (.there (.here)))))))))) | exact .there (.there (.there (.there (.there (.there (.there (.there (.there (.there (.there (.here))))))))))) | exact .there (.there (.there (.there (.there (.there (.there (.there (.there (.there (.there (.there (.here))))))))))))) (Enc.size_eq _)) ?_)
    refine WL.op rfl (opW.call (find_ok _ p d xs[j].table (hS.tbAt (by first | exact .here | exact .there (.here) | exact .there (.there (.here)) | exact .there (.there (.there (.here))) | exact .there (.there (.there (.there (.here)))) | exact .there (.there (.there (.there (.there (.here))))) | exact .there (.there (.there (.there (.there (.there (.here)))))) | exact .there (.there (.there (.there (.there (.there (.there (.here))))))) | exact .there (.there (.there (.there (.there (.there (.there (.there (.here)))))))) | exact .there (.there (.there (.there (.there (.there (.there (.there (.there (.here))))))))) | exact .there (.there (.there (.there (.there (.there (.there (.there (.there (.there (.here)))))))))) | exact .there (.there (.there (.there (.there (.there (.there (.there (.there (.there (.there (.here))))))))))) | exact .there (.there (.there (.there (.there (.there (.there (.there (.there (.there (.there (.there (.here)))))))))))))) hok) rfl ?_)
    rintro _ w ⟨v7, e8, l, rfl, hf, hn7, hw⟩
    replace hS := hS.newOwn hw hn7.1 hn7.2
    refine WL.op rfl (opW.moveV (v := .tuple #[v7, .int .i64 e8]) rfl ?_)
    refine WL.op rfl (opW.extract rfl rfl ?_)
    refine WL.op rfl (opW.extract rfl rfl ?_)
    refine WL.op rfl (opW.assignV (v := v7) rfl ?_)
    refine WL.op rfl (opW.assignI rfl ?_)
    refine WL.nil ?_
    refine thenQ_n (hK7 _ _ ?_)
    refine WC.seq (fun K8 hK8 => ?_)
    refine WC.seq (fun K9 hK9 => ?_)
    refine WC.region ?_
    refine WL.op rfl (opW.moveI rfl ?_)
    refine WL.op rfl (opW.neq rfl rfl ?_)
    refine WL.nil ?_
    refine thenQ_n (hK9 _ _ ?_)
    refine WC.cond _ rfl (fun hc1 => ?_) (fun hc1 => ?_)
    ·
      have hr1 := hc1
      try simp only [decide_eq_true_eq, decide_eq_false_iff_not, Bool.and_eq_true, Bool.or_eq_true, Bool.and_eq_false_iff, Bool.or_eq_false_iff, Bool.not_eq_true', Bool.not_eq_false', Int.not_lt, Int.not_le] at hc1
      have hfn : d.find xs[j].table = none := by
        rcases hf with ⟨_, h⟩ | ⟨h, _⟩
        · exact absurd h (by simpa using hr1)
        · exact h
      refine WC.seq (fun K10 hK10 => ?_)
      refine WC.region ?_
      refine WL.op rfl (opW.moveV (v := .pointer (some ⟨p, 0, none⟩)) rfl ?_)
      refine WL.op rfl (opW.loadV rfl (hS.ldA (cs := Enc.enc xs[j].table) (by first | exact .here | exact .there (.here) | exact .there (.there (.here)) | exact .there (.there (.there (.here))) | exact .there (.there (.there (.there (.here)))) | exact .there (.there (.there (.there (.there (.here))))) | exact .there (.there (.there (.there (.there (.there (.here)))))) | exact .there (.there (.there (.there (.there (.there (.there (.here))))))) | exact .there (.there (.there (.there (.there (.there (.there (.there (.here)))))))) | exact .there (.there (.there (.there (.there (.there (.there (.there (.there (.here))))))))) | exact .there (.there (.there (.there (.there (.there (.there (.there (.there (.there (.here)))))))))) | exact .there (.there (.there (.there (.there (.there (.there (.there (.there (.there (.there (.here))))))))))) | exact .there (.there (.there (.there (.there (.there (.there (.there (.there (.there (.there (.there (.here))))))))))))) (Enc.size_eq _)) ?_)
      refine WL.op rfl (opW.buildE (r := ((⟨xs[j].table, ⟨none, 0, 0⟩, ⟨none, 0, 0⟩⟩ : Lookup) : Lookup)) (ps := Lookup.parts ((⟨xs[j].table, ⟨none, 0, 0⟩, ⟨none, 0, 0⟩⟩ : Lookup) : Lookup)) (Lookup.enc_eq _) (by first | rfl | (simp only [kK, enc_vset, enc_vz, Lookup.enc_eq, Lookup.parts, Act.enc_eq, Act.parts, TbS.enc_eq, TbS.parts]; rfl)) (by (repeat' (first | exact trivial | refine And.intro ?_ ?_)) <;> first | rfl | exact Enc.size_eq _ | (simp; done)) ?_)
      refine WL.op rfl (opW.buildSl hS (([(⟨xs[j].table, ⟨none, 0, 0⟩, ⟨none, 0, 0⟩⟩ : Lookup)] : List Lookup)) [.agg (Enc.enc (⟨xs[j].table, ⟨none, 0, 0⟩, ⟨none, 0, 0⟩⟩ : Lookup))] rfl rfl rfl rfl (by decide) ?_)
      intro b51 w hw hS
      refine WL.op rfl (opW.call (resolve_ok _ p d _ [(⟨xs[j].table, ⟨none, 0, 0⟩, ⟨none, 0, 0⟩⟩ : Lookup)] [⟨xs[j].table, [], []⟩] (hS.tbAt (by first | exact .here | exact .there (.here) | exact .there (.there (.here)) | exact .there (.there (.there (.here))) | exact .there (.there (.there (.there (.here)))) | exact .there (.there (.there (.there (.there (.here))))) | exact .there (.there (.there (.there (.there (.there (.here)))))) | exact .there (.there (.there (.there (.there (.there (.there (.here))))))) | exact .there (.there (.there (.there (.there (.there (.there (.there (.here)))))))) | exact .there (.there (.there (.there (.there (.there (.there (.there (.there (.here))))))))) | exact .there (.there (.there (.there (.there (.there (.there (.there (.there (.there (.here)))))))))) | exact .there (.there (.there (.there (.there (.there (.there (.there (.there (.there (.there (.here))))))))))) | exact .there (.there (.there (.there (.there (.there (.there (.there (.there (.there (.there (.there (.here)))))))))))))) (hS.sl (xs := ([(⟨xs[j].table, ⟨none, 0, 0⟩, ⟨none, 0, 0⟩⟩ : Lookup)] : List Lookup)) (by first | exact .here | exact .there (.here) | exact .there (.there (.here)) | exact .there (.there (.there (.here))) | exact .there (.there (.there (.there (.here)))) | exact .there (.there (.there (.there (.there (.here))))) | exact .there (.there (.there (.there (.there (.there (.here)))))) | exact .there (.there (.there (.there (.there (.there (.there (.here))))))) | exact .there (.there (.there (.there (.there (.there (.there (.there (.here)))))))) | exact .there (.there (.there (.there (.there (.there (.there (.there (.there (.here))))))))) | exact .there (.there (.there (.there (.there (.there (.there (.there (.there (.there (.here)))))))))) | exact .there (.there (.there (.there (.there (.there (.there (.there (.there (.there (.there (.here))))))))))) | exact .there (.there (.there (.there (.there (.there (.there (.there (.there (.there (.there (.there (.here)))))))))))))) ⟨⟨rfl, SlR.nil _, SlR.nil _⟩, trivial⟩ (by simp [lenL])) rfl ?_)
      rintro _ w ⟨v9, v10, e11, ra, rb, rfl, hN1, hr1x⟩
      obtain ⟨rfl, rfl, rfl⟩ := hr1x.err' (show resF d.find [⟨xs[j].table, [], []⟩] = .err 11 from by simp only [resF, hfn])
      replace hS := hS.merge hN1
      simp only [List.cons_append, List.nil_append] at hS
      refine WL.op rfl (opW.moveV (v := .tuple #[v9, v10, .int .i64 11]) rfl ?_)
      refine WL.op rfl (opW.extract rfl rfl ?_)
      refine WL.op rfl (opW.extract rfl rfl ?_)
      refine WL.op rfl (opW.extract rfl rfl ?_)
      refine WL.op rfl (opW.assignV (v := v9) rfl ?_)
      refine WL.op rfl (opW.assignV (v := v10) rfl ?_)
      refine WL.op rfl (opW.assignI rfl ?_)
      refine WL.nil ?_
      refine thenQ_n (hK10 _ _ ?_)
      refine WC.seq (fun K11 hK11 => ?_)
      refine WC.region ?_
      refine WL.op rfl (opW.moveI rfl ?_)
      refine WL.op rfl (opW.boolT (by decide) (opW.eql rfl rfl ⟨rfl, rfl⟩) ?_)
      refine WL.op rfl (opW.moveB rfl ?_)
      refine WL.gT 58 rfl rfl rfl (WL.op rfl (opW.call (lives06 _) rfl ?_))
      rintro _ w ⟨rfl, hw⟩; replace hS := hS.bel hw
      refine WL.op rfl (opW.pickT rfl rfl ?_)
      refine WL.op rfl (opW.assignB rfl ?_)
      refine WL.nil ?_
      refine thenQ_n (hK11 _ _ ?_)
      refine WC.ret ?_
      refine thenQ_r ?_
      refine bodyQ_ret (.tmpB rfl .nil) ?_
      exact ⟨rfl, hS.old⟩
    ·
      have hr1 := hc1
      try simp only [decide_eq_true_eq, decide_eq_false_iff_not, Bool.and_eq_true, Bool.or_eq_true, Bool.and_eq_false_iff, Bool.or_eq_false_iff, Bool.not_eq_true', Bool.not_eq_false', Int.not_lt, Int.not_le] at hc1
      obtain ⟨hfs, he8⟩ : d.find xs[j].table = some l ∧ e8 = 0 := by
        rcases hf with h | ⟨_, h, _⟩
        · exact h
        · rw [h] at hr1; simp at hr1
      have hlen := hok _ _ hfs
      subst he8
      refine WC.skip ?_
      refine thenQ_n (hK8 _ _ ?_)
      refine WC.seq (fun K12 hK12 => ?_)
      refine WC.region ?_
      refine WL.op rfl (opW.assignV (v := .slice none 0 0) rfl ?_)
      refine WL.nil ?_
      refine thenQ_n (hK12 _ _ ?_)
      refine WC.seq (fun K13 hK13 => ?_)
      refine WC.seq (fun K14 hK14 => ?_)
      refine WC.region ?_
      refine WL.op rfl (opW.assignI rfl ?_)
      refine WL.nil ?_
      refine thenQ_n (hK14 _ _ ?_)
      refine WC.block ?_
      refine WC.loop (fun q f w => ∃ (k : Nat) (vx : Value), Fits [(5, .pointer (some ⟨p, 0, none⟩)), (6, .pointer (some ⟨b6, 0, none⟩)), (7, v7), (12, vx), (13, .int .i64 (k : Int))] f ∧ St w0 [ownE vx 5 (idxs k), ownE v7 36 l, blkE b6 (Enc.enc xs[j].table) 36, tbE p d] w ∧ k ≤ l.length ∧ q = l.length - k) (l.length) ?_ ?_
      ·
        exact ⟨0, _, ⟨rfl, rfl, rfl, rfl, rfl, trivial⟩, (hS.sub (by repeat (first | with_reducible exact List.nil_sublist _ | with_reducible exact List.Sublist.refl _ | with_reducible refine List.Sublist.cons₂ _ ?_ | with_reducible refine List.Sublist.cons _ ?_))).nilOwn 5, Nat.zero_le _, rfl⟩
      ·
        rintro q f w ⟨k, vx, hfit, hS, hk0, hm⟩
        refine WC.fits _ hfit (fun g => ?_)
        clear hfit
        refine WC.seq (fun K15 hK15 => ?_)
        refine WC.seq (fun K16 hK16 => ?_)
        refine WC.region ?_
        refine WL.op rfl (opW.moveI rfl ?_)
        refine WL.op rfl (opW.moveV (v := v7) rfl ?_)
        refine WL.op rfl (opW.lenV rfl (hS.sl (v := v7) (xs := l) (by first | exact .here | exact .there (.here) | exact .there (.there (.here)) | exact .there (.there (.there (.here))) | exact .there (.there (.there (.there (.here)))) | exact .there (.there (.there (.there (.there (.here))))) | exact .there (.there (.there (.there (.there (.there (.here)))))) | exact .there (.there (.there (.there (.there (.there (.there (.here))))))) | exact .there (.there (.there (.there (.there (.there (.there (.there (.here)))))))) | exact .there (.there (.there (.there (.there (.there (.there (.there (.there (.here))))))))) | exact .there (.there (.there (.there (.there (.there (.there (.there (.there (.there (.here)))))))))) | exact .there (.there (.there (.there (.there (.there (.there (.there (.there (.there (.there (.here))))))))))) | exact .there (.there (.there (.there (.there (.there (.there (.there (.there (.there (.there (.there (.here)))))))))))))) ?_)
        refine WL.op rfl (opW.lss rfl rfl ?_)
        refine WL.nil ?_
        refine thenQ_n (hK16 _ _ ?_)
        refine WC.cond _ rfl (fun hc2 => ?_) (fun hc2 => ?_)
        ·
          have hr2 := hc2
          try simp only [decide_eq_true_eq, decide_eq_false_iff_not, Bool.and_eq_true, Bool.or_eq_true, Bool.and_eq_false_iff, Bool.or_eq_false_iff, Bool.not_eq_true', Bool.not_eq_false', Int.not_lt, Int.not_le] at hc2
          have hkl : k < l.length := by omega
          have hil := idxs_len k
          refine WC.skip ?_
          refine thenQ_n (hK15 _ _ ?_)
          refine WC.seq (fun K17 hK17 => ?_)
          refine WC.block ?_
          refine WC.region ?_
          refine WL.op rfl (opW.moveV (v := vx) rfl ?_)
          refine WL.op rfl (opW.moveI rfl ?_)
          refine WL.op rfl (opW.conv rfl (wrap_u8n (by omega)) ?_)
          refine WL.op rfl (opW.buildSl hS (([UInt8.ofNat k] : List UInt8)) [.int .u8 ((UInt8.ofNat k).toNat : Int)] rfl rfl rfl rfl (by decide) ?_)
          intro b70 w hw hS
          refine WL.op rfl (opW.appendOwn (α := UInt8) rfl hS rfl (by first | exact .here | exact .there (.here) | exact .there (.there (.here)) | exact .there (.there (.there (.here))) | exact .there (.there (.there (.there (.here)))) | exact .there (.there (.there (.there (.there (.here))))) | exact .there (.there (.there (.there (.there (.there (.here)))))) | exact .there (.there (.there (.there (.there (.there (.there (.here))))))) | exact .there (.there (.there (.there (.there (.there (.there (.there (.here)))))))) | exact .there (.there (.there (.there (.there (.there (.there (.there (.there (.here))))))))) | exact .there (.there (.there (.there (.there (.there (.there (.there (.there (.there (.here)))))))))) | exact .there (.there (.there (.there (.there (.there (.there (.there (.there (.there (.there (.here))))))))))) | exact .there (.there (.there (.there (.there (.there (.there (.there (.there (.there (.there (.there (.here))))))))))))) (hS.sl (xs := ([UInt8.ofNat k] : List UInt8)) (by first | exact .here | exact .there (.here) | exact .there (.there (.here)) | exact .there (.there (.there (.here))) | exact .there (.there (.there (.there (.here)))) | exact .there (.there (.there (.there (.there (.here))))) | exact .there (.there (.there (.there (.there (.there (.here)))))) | exact .there (.there (.there (.there (.there (.there (.there (.here))))))) | exact .there (.there (.there (.there (.there (.there (.there (.there (.here)))))))) | exact .there (.there (.there (.there (.there (.there (.there (.there (.there (.here))))))))) | exact .there (.there (.there (.there (.there (.there (.there (.there (.there (.there (.here)))))))))) | exact .there (.there (.there (.there (.there (.there (.there (.there (.there (.there (.there (.here))))))))))) | exact .there (.there (.there (.there (.there (.there (.there (.there (.there (.there (.there (.there (.here)))))))))))))) (by simp only [List.length_cons, List.length_nil]; omega) (by simp only [maxLen]; simp only [List.length_cons, List.length_nil]; omega) ?_)
          intro v71 w hS; replace hS := hS _ (by first | exact .here | exact .there (.here) | exact .there (.there (.here)) | exact .there (.there (.there (.here))) | exact .there (.there (.there (.there (.here)))) | exact .there (.there (.there (.there (.there (.here))))) | exact .there (.there (.there (.there (.there (.there (.here)))))) | exact .there (.there (.there (.there (.there (.there (.there (.here))))))) | exact .there (.there (.there (.there (.there (.there (.there (.there (.here)))))))) | exact .there (.there (.there (.there (.there (.there (.there (.there (.there (.here))))))))) | exact .there (.there (.there (.there (.there (.there (.there (.there (.there (.there (.here)))))))))) | exact .there (.there (.there (.there (.there (.there (.there (.there (.there (.there (.there (.here))))))))))) | exact .there (.there (.there (.there (.there (.there (.there (.there (.there (.there (.there (.there (.here)))))))))))))
          refine WL.op rfl (opW.assignV (v := v71) rfl ?_)
          refine WL.nil ?_
          refine blockQ_n ?_
          refine thenQ_n (hK17 _ _ ?_)
          refine WC.region ?_
          refine WL.op rfl (opW.moveI rfl ?_)
          refine WL.op rfl (opW.add rfl rfl (wrap_i64 (by omega)) ?_)
          refine WL.op rfl (opW.assignI rfl ?_)
          refine WL.nil ?_
          refine thenQ_n ?_
          rw [← idxs_succ] at hS
          exact ⟨l.length - (k + 1), by omega, k + 1, v71, ⟨rfl, rfl, rfl, rfl, congrArg (Value.int .i64) (by omega), trivial⟩, hS.sub (by repeat (first | with_reducible exact List.nil_sublist _ | with_reducible exact List.Sublist.refl _ | with_reducible refine List.Sublist.cons₂ _ ?_ | with_reducible refine List.Sublist.cons _ ?_)), by omega, rfl⟩
        ·
          have hr2 := hc2
          try simp only [decide_eq_true_eq, decide_eq_false_iff_not, Bool.and_eq_true, Bool.or_eq_true, Bool.and_eq_false_iff, Bool.or_eq_false_iff, Bool.not_eq_true', Bool.not_eq_false', Int.not_lt, Int.not_le] at hc2
          obtain rfl : k = l.length := by omega
          obtain ⟨sx, rfl⟩ := (hS.sl (v := vx) (xs := idxs l.length) (by first | exact .here | exact .there (.here) | exact .there (.there (.here)) | exact .there (.there (.there (.here))) | exact .there (.there (.there (.there (.here)))) | exact .there (.there (.there (.there (.there (.here))))) | exact .there (.there (.there (.there (.there (.there (.here)))))) | exact .there (.there (.there (.there (.there (.there (.there (.here))))))) | exact .there (.there (.there (.there (.there (.there (.there (.there (.here)))))))) | exact .there (.there (.there (.there (.there (.there (.there (.there (.there (.here))))))))) | exact .there (.there (.there (.there (.there (.there (.there (.there (.there (.there (.here)))))))))) | exact .there (.there (.there (.there (.there (.there (.there (.there (.there (.there (.there (.here))))))))))) | exact .there (.there (.there (.there (.there (.there (.there (.there (.there (.there (.there (.there (.here)))))))))))))).slv
          have hil := idxs_len l.length
          refine WC.exit ?_
          refine thenQ_e ?_
          refine thenQ_e ?_
          refine blockQ_hit ?_
          refine thenQ_n (hK13 _ _ ?_)
          refine WC.seq (fun K18 hK18 => ?_)
          refine WC.region ?_
          refine WL.op rfl (opW.moveV (v := .pointer (some ⟨p, 0, none⟩)) rfl ?_)
          refine WL.op rfl (opW.loadV rfl (hS.ldA (cs := Enc.enc xs[j].table) (by first | exact .here | exact .there (.here) | exact .there (.there (.here)) | exact .there (.there (.there (.here))) | exact .there (.there (.there (.there (.here)))) | exact .there (.there (.there (.there (.there (.here))))) | exact .there (.there (.there (.there (.there (.there (.here)))))) | exact .there (.there (.there (.there (.there (.there (.there (.here))))))) | exact .there (.there (.there (.there (.there (.there (.there (.there (.here)))))))) | exact .there (.there (.there (.there (.there (.there (.there (.there (.there (.here))))))))) | exact .there (.there (.there (.there (.there (.there (.there (.there (.there (.there (.here)))))))))) | exact .there (.there (.there (.there (.there (.there (.there (.there (.there (.there (.there (.here))))))))))) | exact .there (.there (.there (.there (.there (.there (.there (.there (.there (.there (.there (.there (.here))))))))))))) (Enc.size_eq _)) ?_)
          refine WL.op rfl (opW.moveV (v := sx.v) rfl ?_)
          refine WL.op rfl (opW.buildE (r := ((⟨xs[j].table, sx, ⟨none, 0, 0⟩⟩ : Lookup) : Lookup)) (ps := Lookup.parts ((⟨xs[j].table, sx, ⟨none, 0, 0⟩⟩ : Lookup) : Lookup)) (Lookup.enc_eq _) (by first | rfl | (simp only [kK, enc_vset, enc_vz, Lookup.enc_eq, Lookup.parts, Act.enc_eq, Act.parts, TbS.enc_eq, TbS.parts]; rfl)) (by (repeat' (first | exact trivial | refine And.intro ?_ ?_)) <;> first | rfl | exact Enc.size_eq _ | (simp; done)) ?_)
          refine WL.op rfl (opW.loadV rfl (hS.ldA (cs := Enc.enc xs[j].table) (by first | exact .here | exact .there (.here) | exact .there (.there (.here)) | exact .there (.there (.there (.here))) | exact .there (.there (.there (.there (.here)))) | exact .there (.there (.there (.there (.there (.here))))) | exact .there (.there (.there (.there (.there (.there (.here)))))) | exact .there (.there (.there (.there (.there (.there (.there (.here))))))) | exact .there (.there (.there (.there (.there (.there (.there (.there (.here)))))))) | exact .there (.there (.there (.there (.there (.there (.there (.there (.there (.here))))))))) | exact .there (.there (.there (.there (.there (.there (.there (.there (.there (.there (.here)))))))))) | exact .there (.there (.there (.there (.there (.there (.there (.there (.there (.there (.there (.here))))))))))) | exact .there (.there (.there (.there (.there (.there (.there (.there (.there (.there (.there (.there (.here))))))))))))) (Enc.size_eq _)) ?_)
          refine WL.op rfl (opW.moveV (v := sx.v) rfl ?_)
          refine WL.op rfl (opW.buildE (r := ((⟨xs[j].table, ⟨none, 0, 0⟩, sx⟩ : Lookup) : Lookup)) (ps := Lookup.parts ((⟨xs[j].table, ⟨none, 0, 0⟩, sx⟩ : Lookup) : Lookup)) (Lookup.enc_eq _) (by first | rfl | (simp only [kK, enc_vset, enc_vz, Lookup.enc_eq, Lookup.parts, Act.enc_eq, Act.parts, TbS.enc_eq, TbS.parts]; rfl)) (by (repeat' (first | exact trivial | refine And.intro ?_ ?_)) <;> first | rfl | exact Enc.size_eq _ | (simp; done)) ?_)
          refine WL.op rfl (opW.buildSl hS (([(⟨xs[j].table, sx, ⟨none, 0, 0⟩⟩ : Lookup), (⟨xs[j].table, ⟨none, 0, 0⟩, sx⟩ : Lookup)] : List Lookup)) [.agg (Enc.enc (⟨xs[j].table, sx, ⟨none, 0, 0⟩⟩ : Lookup)), .agg (Enc.enc (⟨xs[j].table, ⟨none, 0, 0⟩, sx⟩ : Lookup))] rfl rfl rfl rfl (by decide) ?_)
          intro b80 w hw hS
          refine WL.op rfl (opW.call (resolve_ok _ p d _ [(⟨xs[j].table, sx, ⟨none, 0, 0⟩⟩ : Lookup), (⟨xs[j].table, ⟨none, 0, 0⟩, sx⟩ : Lookup)] [⟨xs[j].table, idxs l.length, []⟩, ⟨xs[j].table, [], idxs l.length⟩] (hS.tbAt (by first | exact .here | exact .there (.here) | exact .there (.there (.here)) | exact .there (.there (.there (.here))) | exact .there (.there (.there (.there (.here)))) | exact .there (.there (.there (.there (.there (.here))))) | exact .there (.there (.there (.there (.there (.there (.here)))))) | exact .there (.there (.there (.there (.there (.there (.there (.here))))))) | exact .there (.there (.there (.there (.there (.there (.there (.there (.here)))))))) | exact .there (.there (.there (.there (.there (.there (.there (.there (.there (.here))))))))) | exact .there (.there (.there (.there (.there (.there (.there (.there (.there (.there (.here)))))))))) | exact .there (.there (.there (.there (.there (.there (.there (.there (.there (.there (.there (.here))))))))))) | exact .there (.there (.there (.there (.there (.there (.there (.there (.there (.there (.there (.there (.here)))))))))))))) (hS.sl (xs := ([(⟨xs[j].table, sx, ⟨none, 0, 0⟩⟩ : Lookup), (⟨xs[j].table, ⟨none, 0, 0⟩, sx⟩ : Lookup)] : List Lookup)) (by first | exact .here | exact .there (.here) | exact .there (.there (.here)) | exact .there (.there (.there (.here))) | exact .there (.there (.there (.there (.here)))) | exact .there (.there (.there (.there (.there (.here))))) | exact .there (.there (.there (.there (.there (.there (.here)))))) | exact .there (.there (.there (.there (.there (.there (.there (.here))))))) | exact .there (.there (.there (.there (.there (.there (.there (.there (.here)))))))) | exact .there (.there (.there (.there (.there (.there (.there (.there (.there (.here))))))))) | exact .there (.there (.there (.there (.there (.there (.there (.there (.there (.there (.here)))))))))) | exact .there (.there (.there (.there (.there (.there (.there (.there (.there (.there (.there (.here))))))))))) | exact .there (.there (.there (.there (.there (.there (.there (.there (.there (.there (.there (.there (.here)))))))))))))) ⟨⟨rfl, hS.sl (by first | exact .here | exact .there (.here) | exact .there (.there (.here)) | exact .there (.there (.there (.here))) | exact .there (.there (.there (.there (.here)))) | exact .there (.there (.there (.there (.there (.here))))) | exact .there (.there (.there (.there (.there (.there (.here)))))) | exact .there (.there (.there (.there (.there (.there (.there (.here))))))) | exact .there (.there (.there (.there (.there (.there (.there (.there (.here)))))))) | exact .there (.there (.there (.there (.there (.there (.there (.there (.there (.here))))))))) | exact .there (.there (.there (.there (.there (.there (.there (.there (.there (.there (.here)))))))))) | exact .there (.there (.there (.there (.there (.there (.there (.there (.there (.there (.there (.here))))))))))) | exact .there (.there (.there (.there (.there (.there (.there (.there (.there (.there (.there (.there (.here))))))))))))), SlR.nil _⟩, ⟨rfl, SlR.nil _, hS.sl (by first | exact .here | exact .there (.here) | exact .there (.there (.here)) | exact .there (.there (.there (.here))) | exact .there (.there (.there (.there (.here)))) | exact .there (.there (.there (.there (.there (.here))))) | exact .there (.there (.there (.there (.there (.there (.here)))))) | exact .there (.there (.there (.there (.there (.there (.there (.here))))))) | exact .there (.there (.there (.there (.there (.there (.there (.there (.here)))))))) | exact .there (.there (.there (.there (.there (.there (.there (.there (.there (.here))))))))) | exact .there (.there (.there (.there (.there (.there (.there (.there (.there (.there (.here)))))))))) | exact .there (.there (.there (.there (.there (.there (.there (.there (.there (.there (.there (.here))))))))))) | exact .there (.there (.there (.there (.there (.there (.there (.there (.there (.there (.there (.there (.here)))))))))))))⟩, trivial⟩ (by simp [lenL, hil]; omega)) rfl ?_)
          rintro _ w ⟨v14, v15, e16, ra, rb, rfl, hN1, hr1x⟩
          obtain ⟨hra, hrb, rfl⟩ := hr1x.ok' (res_whole hfs hlen.2)
          rw [hra, hrb] at hN1
          replace hS := hS.merge hN1
          simp only [List.cons_append, List.nil_append] at hS
          refine WL.op rfl (opW.moveV (v := .tuple #[v14, v15, .int .i64 0]) rfl ?_)
          refine WL.op rfl (opW.extract rfl rfl ?_)
          refine WL.op rfl (opW.extract rfl rfl ?_)
          refine WL.op rfl (opW.extract rfl rfl ?_)
          refine WL.op rfl (opW.assignV (v := v14) rfl ?_)
          refine WL.op rfl (opW.assignV (v := v15) rfl ?_)
          refine WL.op rfl (opW.assignI rfl ?_)
          refine WL.nil ?_
          refine thenQ_n (hK18 _ _ ?_)
          refine WC.seq (fun K19 hK19 => ?_)
          refine WC.seq (fun K20 hK20 => ?_)
          refine WC.region ?_
          refine WL.op rfl (opW.moveI rfl ?_)
          refine WL.op rfl (opW.boolF (by decide) (opW.neq rfl rfl ⟨rfl, rfl⟩) ?_)
          refine WL.op rfl (opW.moveB rfl ?_)
          refine WL.gT 87 rfl rfl rfl (WL.op rfl (opW.moveV (v := v14) rfl ?_))
          refine WL.gT 87 rfl rfl rfl (WL.op rfl (opW.moveV (v := v7) rfl ?_))
          refine WL.gT 87 rfl rfl rfl (WL.op rfl (opW.call (sameKeys_ok _ v14 v7 l l (hS.sl (v := v14) (xs := l) (by first | exact .here | exact .there (.here) | exact .there (.there (.here)) | exact .there (.there (.there (.here))) | exact .there (.there (.there (.there (.here)))) | exact .there (.there (.there (.there (.there (.here))))) | exact .there (.there (.there (.there (.there (.there (.here)))))) | exact .there (.there (.there (.there (.there (.there (.there (.here))))))) | exact .there (.there (.there (.there (.there (.there (.there (.there (.here)))))))) | exact .there (.there (.there (.there (.there (.there (.there (.there (.there (.here))))))))) | exact .there (.there (.there (.there (.there (.there (.there (.there (.there (.there (.here)))))))))) | exact .there (.there (.there (.there (.there (.there (.there (.there (.there (.there (.there (.here))))))))))) | exact .there (.there (.there (.there (.there (.there (.there (.there (.there (.there (.there (.there (.here)))))))))))))) (hS.sl (v := v7) (xs := l) (by first | exact .here | exact .there (.here) | exact .there (.there (.here)) | exact .there (.there (.there (.here))) | exact .there (.there (.there (.there (.here)))) | exact .there (.there (.there (.there (.there (.here))))) | exact .there (.there (.there (.there (.there (.there (.here)))))) | exact .there (.there (.there (.there (.there (.there (.there (.here))))))) | exact .there (.there (.there (.there (.there (.there (.there (.there (.here)))))))) | exact .there (.there (.there (.there (.there (.there (.there (.there (.there (.here))))))))) | exact .there (.there (.there (.there (.there (.there (.there (.there (.there (.there (.here)))))))))) | exact .there (.there (.there (.there (.there (.there (.there (.there (.there (.there (.there (.here))))))))))) | exact .there (.there (.there (.there (.there (.there (.there (.there (.there (.there (.there (.there (.here))))))))))))))) rfl ?_))
          rintro _ w ⟨rfl, hw⟩; replace hS := hS.bel hw
          rw [show decide (l = l) = true from by simp]
          refine WL.gT 87 rfl rfl rfl (WL.op rfl (opW.not rfl ?_))
          refine WL.op rfl (opW.pickT rfl rfl ?_)
          refine WL.op rfl (opW.moveB rfl ?_)
          refine WL.gT 93 rfl rfl rfl (WL.op rfl (opW.moveV (v := v15) rfl ?_))
          refine WL.gT 93 rfl rfl rfl (WL.op rfl (opW.moveV (v := v7) rfl ?_))
          refine WL.gT 93 rfl rfl rfl (WL.op rfl (opW.call (sameKeys_ok _ v15 v7 l l (hS.sl (v := v15) (xs := l) (by first | exact .here | exact .there (.here) | exact .there (.there (.here)) | exact .there (.there (.there (.here))) | exact .there (.there (.there (.there (.here)))) | exact .there (.there (.there (.there (.there (.here))))) | exact .there (.there (.there (.there (.there (.there (.here)))))) | exact .there (.there (.there (.there (.there (.there (.there (.here))))))) | exact .there (.there (.there (.there (.there (.there (.there (.there (.here)))))))) | exact .there (.there (.there (.there (.there (.there (.there (.there (.there (.here))))))))) | exact .there (.there (.there (.there (.there (.there (.there (.there (.there (.there (.here)))))))))) | exact .there (.there (.there (.there (.there (.there (.there (.there (.there (.there (.there (.here))))))))))) | exact .there (.there (.there (.there (.there (.there (.there (.there (.there (.there (.there (.there (.here)))))))))))))) (hS.sl (v := v7) (xs := l) (by first | exact .here | exact .there (.here) | exact .there (.there (.here)) | exact .there (.there (.there (.here))) | exact .there (.there (.there (.there (.here)))) | exact .there (.there (.there (.there (.there (.here))))) | exact .there (.there (.there (.there (.there (.there (.here)))))) | exact .there (.there (.there (.there (.there (.there (.there (.here))))))) | exact .there (.there (.there (.there (.there (.there (.there (.there (.here)))))))) | exact .there (.there (.there (.there (.there (.there (.there (.there (.there (.here))))))))) | exact .there (.there (.there (.there (.there (.there (.there (.there (.there (.there (.here)))))))))) | exact .there (.there (.there (.there (.there (.there (.there (.there (.there (.there (.there (.here))))))))))) | exact .there (.there (.there (.there (.there (.there (.there (.there (.there (.there (.there (.there (.here))))))))))))))) rfl ?_))
          rintro _ w ⟨rfl, hw⟩; replace hS := hS.bel hw
          rw [show decide (l = l) = true from by simp]
          refine WL.gT 93 rfl rfl rfl (WL.op rfl (opW.not rfl ?_))
          refine WL.op rfl (opW.pickT rfl rfl ?_)
          refine WL.nil ?_
          refine thenQ_n (hK20 _ _ ?_)
          refine WC.cond _ rfl (fun hc3 => ?_) (fun hc3 => ?_)
          ·
            have hr3 := hc3
            try simp only [decide_eq_true_eq, decide_eq_false_iff_not, Bool.and_eq_true, Bool.or_eq_true, Bool.and_eq_false_iff, Bool.or_eq_false_iff, Bool.not_eq_true', Bool.not_eq_false', Int.not_lt, Int.not_le] at hc3
            simp at hr3
          ·
            have hr3 := hc3
            try simp only [decide_eq_true_eq, decide_eq_false_iff_not, Bool.and_eq_true, Bool.or_eq_true, Bool.and_eq_false_iff, Bool.or_eq_false_iff, Bool.not_eq_true', Bool.not_eq_false', Int.not_lt, Int.not_le] at hc3
            refine WC.skip ?_
            refine thenQ_n (hK19 _ _ ?_)
            refine WC.seq (fun K21 hK21 => ?_)
            refine WC.seq (fun K22 hK22 => ?_)
            refine WC.region ?_
            refine WL.op rfl (opW.moveV (v := v7) rfl ?_)
            refine WL.op rfl (opW.lenV rfl (hS.sl (v := v7) (xs := l) (by first | exact .here | exact .there (.here) | exact .there (.there (.here)) | exact .there (.there (.there (.here))) | exact .there (.there (.there (.there (.here)))) | exact .there (.there (.there (.there (.there (.here))))) | exact .there (.there (.there (.there (.there (.there (.here)))))) | exact .there (.there (.there (.there (.there (.there (.there (.here))))))) | exact .there (.there (.there (.there (.there (.there (.there (.there (.here)))))))) | exact .there (.there (.there (.there (.there (.there (.there (.there (.there (.here))))))))) | exact .there (.there (.there (.there (.there (.there (.there (.there (.there (.there (.here)))))))))) | exact .there (.there (.there (.there (.there (.there (.there (.there (.there (.there (.there (.here))))))))))) | exact .there (.there (.there (.there (.there (.there (.there (.there (.there (.there (.there (.there (.here)))))))))))))) ?_)
            refine WL.op rfl (opW.eql rfl rfl ?_)
            refine WL.nil ?_
            refine thenQ_n (hK22 _ _ ?_)
            refine WC.cond _ rfl (fun hc4 => ?_) (fun hc4 => ?_)
            ·
              have hr4 := hc4
              try simp only [decide_eq_true_eq, decide_eq_false_iff_not, Bool.and_eq_true, Bool.or_eq_true, Bool.and_eq_false_iff, Bool.or_eq_false_iff, Bool.not_eq_true', Bool.not_eq_false', Int.not_lt, Int.not_le] at hc4
              refine WC.seq (fun K23 hK23 => ?_)
              refine WC.region ?_
              refine WL.op rfl (opW.call (lives06 _) rfl ?_)
              rintro _ w ⟨rfl, hw⟩; replace hS := hS.bel hw
              refine WL.op rfl (opW.assignB rfl ?_)
              refine WL.nil ?_
              refine thenQ_n (hK23 _ _ ?_)
              refine WC.ret ?_
              refine thenQ_r ?_
              refine bodyQ_ret (.tmpB rfl .nil) ?_
              exact ⟨rfl, hS.old⟩
            ·
              have hr4 := hc4
              try simp only [decide_eq_true_eq, decide_eq_false_iff_not, Bool.and_eq_true, Bool.or_eq_true, Bool.and_eq_false_iff, Bool.or_eq_false_iff, Bool.not_eq_true', Bool.not_eq_false', Int.not_lt, Int.not_le] at hc4
              have hl256 : l.length < 256 := by omega
              refine WC.skip ?_
              refine thenQ_n (hK21 _ _ ?_)
              refine WC.seq (fun K24 hK24 => ?_)
              refine WC.region ?_
              refine WL.op rfl (opW.moveV (v := .pointer (some ⟨p, 0, none⟩)) rfl ?_)
              refine WL.op rfl (opW.loadV rfl (hS.ldA (cs := Enc.enc xs[j].table) (by first | exact .here | exact .there (.here) | exact .there (.there (.here)) | exact .there (.there (.there (.here))) | exact .there (.there (.there (.there (.here)))) | exact .there (.there (.there (.there (.there (.here))))) | exact .there (.there (.there (.there (.there (.there (.here)))))) | exact .there (.there (.there (.there (.there (.there (.there (.here))))))) | exact .there (.there (.there (.there (.there (.there (.there (.there (.here)))))))) | exact .there (.there (.there (.there (.there (.there (.there (.there (.there (.here))))))))) | exact .there (.there (.there (.there (.there (.there (.there (.there (.there (.there (.here)))))))))) | exact .there (.there (.there (.there (.there (.there (.there (.there (.there (.there (.there (.here))))))))))) | exact .there (.there (.there (.there (.there (.there (.there (.there (.there (.there (.there (.there (.here))))))))))))) (Enc.size_eq _)) ?_)
              refine WL.op rfl (opW.moveV (v := v7) rfl ?_)
              refine WL.op rfl (opW.lenV rfl (hS.sl (v := v7) (xs := l) (by first | exact .here | exact .there (.here) | exact .there (.there (.here)) | exact .there (.there (.there (.here))) | exact .there (.there (.there (.there (.here)))) | exact .there (.there (.there (.there (.there (.here))))) | exact .there (.there (.there (.there (.there (.there (.here)))))) | exact .there (.there (.there (.there (.there (.there (.there (.here))))))) | exact .there (.there (.there (.there (.there (.there (.there (.there (.here)))))))) | exact .there (.there (.there (.there (.there (.there (.there (.there (.there (.here))))))))) | exact .there (.there (.there (.there (.there (.there (.there (.there (.there (.there (.here)))))))))) | exact .there (.there (.there (.there (.there (.there (.there (.there (.there (.there (.there (.here))))))))))) | exact .there (.there (.there (.there (.there (.there (.there (.there (.there (.there (.there (.there (.here)))))))))))))) ?_)
              refine WL.op rfl (opW.conv rfl (wrap_u8n (by omega)) ?_)
              refine WL.op rfl (opW.buildSl hS (([UInt8.ofNat l.length] : List UInt8)) [.int .u8 ((UInt8.ofNat l.length).toNat : Int)] rfl rfl rfl rfl (by decide) ?_)
              intro b109 w hw hS
              refine WL.op rfl (opW.buildE (r := ((⟨xs[j].table, ⟨some ⟨b109, 0, none⟩, 1, 1⟩, ⟨none, 0, 0⟩⟩ : Lookup) : Lookup)) (ps := Lookup.parts ((⟨xs[j].table, ⟨some ⟨b109, 0, none⟩, 1, 1⟩, ⟨none, 0, 0⟩⟩ : Lookup) : Lookup)) (Lookup.enc_eq _) (by first | rfl | (simp only [kK, enc_vset, enc_vz, Lookup.enc_eq, Lookup.parts, Act.enc_eq, Act.parts, TbS.enc_eq, TbS.parts]; rfl)) (by (repeat' (first | exact trivial | refine And.intro ?_ ?_)) <;> first | rfl | exact Enc.size_eq _ | (simp; done)) ?_)
              refine WL.op rfl (opW.buildSl hS (([(⟨xs[j].table, ⟨some ⟨b109, 0, none⟩, 1, 1⟩, ⟨none, 0, 0⟩⟩ : Lookup)] : List Lookup)) [.agg (Enc.enc (⟨xs[j].table, ⟨some ⟨b109, 0, none⟩, 1, 1⟩, ⟨none, 0, 0⟩⟩ : Lookup))] rfl rfl rfl rfl (by decide) ?_)
              intro b111 w hw hS
              refine WL.op rfl (opW.call (resolve_ok _ p d _ [(⟨xs[j].table, ⟨some ⟨b109, 0, none⟩, 1, 1⟩, ⟨none, 0, 0⟩⟩ : Lookup)] [⟨xs[j].table, [UInt8.ofNat l.length], []⟩] (hS.tbAt (by first | exact .here | exact .there (.here) | exact .there (.there (.here)) | exact .there (.there (.there (.here))) | exact .there (.there (.there (.there (.here)))) | exact .there (.there (.there (.there (.there (.here))))) | exact .there (.there (.there (.there (.there (.there (.here)))))) | exact .there (.there (.there (.there (.there (.there (.there (.here))))))) | exact .there (.there (.there (.there (.there (.there (.there (.there (.here)))))))) | exact .there (.there (.there (.there (.there (.there (.there (.there (.there (.here))))))))) | exact .there (.there (.there (.there (.there (.there (.there (.there (.there (.there (.here)))))))))) | exact .there (.there (.there (.there (.there (.there (.there (.there (.there (.there (.there (.here))))))))))) | exact .there (.there (.there (.there (.there (.there (.there (.there (.there (.there (.there (.there (.here)))))))))))))) (hS.sl (xs := ([(⟨xs[j].table, ⟨some ⟨b109, 0, none⟩, 1, 1⟩, ⟨none, 0, 0⟩⟩ : Lookup)] : List Lookup)) (by first | exact .here | exact .there (.here) | exact .there (.there (.here)) | exact .there (.there (.there (.here))) | exact .there (.there (.there (.there (.here)))) | exact .there (.there (.there (.there (.there (.here))))) | exact .there (.there (.there (.there (.there (.there (.here)))))) | exact .there (.there (.there (.there (.there (.there (.there (.here))))))) | exact .there (.there (.there (.there (.there (.there (.there (.there (.here)))))))) | exact .there (.there (.there (.there (.there (.there (.there (.there (.there (.here))))))))) | exact .there (.there (.there (.there (.there (.there (.there (.there (.there (.there (.here)))))))))) | exact .there (.there (.there (.there (.there (.there (.there (.there (.there (.there (.there (.here))))))))))) | exact .there (.there (.there (.there (.there (.there (.there (.there (.there (.there (.there (.there (.here)))))))))))))) ⟨⟨rfl, hS.sl (xs := ([UInt8.ofNat l.length] : List UInt8)) (by first | exact .here | exact .there (.here) | exact .there (.there (.here)) | exact .there (.there (.there (.here))) | exact .there (.there (.there (.there (.here)))) | exact .there (.there (.there (.there (.there (.here))))) | exact .there (.there (.there (.there (.there (.there (.here)))))) | exact .there (.there (.there (.there (.there (.there (.there (.here))))))) | exact .there (.there (.there (.there (.there (.there (.there (.there (.here)))))))) | exact .there (.there (.there (.there (.there (.there (.there (.there (.there (.here))))))))) | exact .there (.there (.there (.there (.there (.there (.there (.there (.there (.there (.here)))))))))) | exact .there (.there (.there (.there (.there (.there (.there (.there (.there (.there (.there (.here))))))))))) | exact .there (.there (.there (.there (.there (.there (.there (.there (.there (.there (.there (.there (.here))))))))))))), SlR.nil _⟩, trivial⟩ (by simp [lenL])) rfl ?_)
              rintro _ w ⟨v17, v18, e19, rc, rd, rfl, hN2, hr2x⟩
              obtain ⟨rfl, rfl, rfl⟩ := hr2x.err' (res_beyond hfs hl256)
              replace hS := hS.merge hN2
              simp only [List.cons_append, List.nil_append] at hS
              refine WL.op rfl (opW.moveV (v := .tuple #[v17, v18, .int .i64 8]) rfl ?_)
              refine WL.op rfl (opW.extract rfl rfl ?_)
              refine WL.op rfl (opW.extract rfl rfl ?_)
              refine WL.op rfl (opW.extract rfl rfl ?_)
              refine WL.op rfl (opW.assignV (v := v17) rfl ?_)
              refine WL.op rfl (opW.assignV (v := v18) rfl ?_)
              refine WL.op rfl (opW.assignI rfl ?_)
              refine WL.nil ?_
              refine thenQ_n (hK24 _ _ ?_)
              refine WC.seq (fun K25 hK25 => ?_)
              refine WC.region ?_
              refine WL.op rfl (opW.moveI rfl ?_)
              refine WL.op rfl (opW.boolT (by decide) (opW.eql rfl rfl ⟨rfl, rfl⟩) ?_)
              refine WL.op rfl (opW.moveB rfl ?_)
              refine WL.gT 118 rfl rfl rfl (WL.op rfl (opW.call (lives06 _) rfl ?_))
              rintro _ w ⟨rfl, hw⟩; replace hS := hS.bel hw
              refine WL.op rfl (opW.pickT rfl rfl ?_)
              refine WL.op rfl (opW.assignB rfl ?_)
              refine WL.nil ?_
              refine thenQ_n (hK25 _ _ ?_)
              refine WC.ret ?_
              refine bodyQ_ret (.tmpB rfl .nil) ?_
              exact ⟨rfl, hS.old⟩

end Go.Fer
