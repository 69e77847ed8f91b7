/- Load -/
import Derived.Test.YtmibkfdpgmohfaaDoorL2
set_option linter.all false
namespace Go.Fer
open Go Go.Proofs Go.RowKit

/-- the accounts that a transaction names -/
def loadA (d : StD) (r : List Role) : List Account := r.map fun x => d.get x.key
def zr : Role := ⟨vz 32, false, false⟩
/-- is who pays such that he can? -/
def payB (fee : Nat) (r : List Role) (l : List Account) : Bool := (r.getD 0 zr).writes && decide ((l.getD 0 az).owner = sysK) && decide (fee ≤ (l.getD 0 az).coins)
def paidA (fee : Nat) (l : List Account) : List Account := l.set 0 { l.getD 0 az with coins := (l.getD 0 az).coins - fee }
theorem loadA_len (d : StD) (r : List Role) : (loadA d r).length = r.length := by unfold loadA; rw [List.length_map]
theorem loadA_take {d : StD} {r : List Role} {k : Nat} (h : k < r.length) : loadA d (r.take (k + 1)) = loadA d (r.take k) ++ [d.get r[k].key] := by
  unfold loadA; rw [List.take_succ_eq_append_getElem h, List.map_append]; rfl
theorem loadA_get {d : StD} {r : List Role} {k : Nat} (h : k < (loadA d r).length) (h2 : k < r.length) : (loadA d r)[k] = d.get r[k].key := by simp [loadA]
theorem loadA_congr {d d' : StD} (h : ∀ k, d'.get k = d.get k) (r : List Role) : loadA d' r = loadA d r := by
  unfold loadA; exact List.map_congr_left fun x _ => h x.key
def okS (d : StD) : Prop := ∀ k, okW (d.get k)
theorem payB_nil (fee : Nat) (l : List Account) : payB fee [] l = false := rfl

set_option maxHeartbeats 1000000 in
theorem load15 (wb w0 : World) (S : List Ent) (p : Nat) (d : StD) (R : Ready) (r : List Role) (hok : StOk d) (hsok : okS d) (hr : ∀ w, St wb S w → SlR w R.roles.v r) (hrb : r.length ≤ 100000) (hS0 : St wb (stE p d :: S) w0) : Ret Tryd.prog 10 #[.pointer (some ⟨p, 0, none⟩), .agg (Enc.enc R)] w0 (fun u w' => ∃ d', (∀ k, d'.get k = d.get k) ∧ StOk d' ∧ ((payB R.fee r (loadA d r) = false ∧ u = .tuple #[.slice none 0 0, .int .i64 22] ∧ St wb (stE p d' :: S) w') ∨ (payB R.fee r (loadA d r) = true ∧ ∃ sv : SlV, u = .tuple #[sv.v, .int .i64 0] ∧ St wb (ownE sv.v 59 (paidA R.fee (loadA d r)) :: stE p d' :: S) w'))) := by
  refine Ret.enter (args := [.pointer (some ⟨p, 0, none⟩), .agg (Enc.enc R)]) Tryd.func10 rfl Tryd.ntmps10 Tryd.results10 rfl ?_
  have hS := St.start w0
  replace hS := hS0
  refine WC.seq (fun K1 hK1 => ?_)
  refine WC.region ?_
  refine WL.op rfl (opW.boxA hS rfl ?_)
  intro b3 w _ hS
  refine WL.op rfl (opW.assignV (v := .slice none 0 0) rfl ?_)
  refine WL.op rfl (opW.assignI rfl ?_)
  refine WL.nil ?_
  refine thenQ_n (hK1 _ _ ?_)
  refine WC.seq (fun K2 hK2 => ?_)
  refine WC.seq (fun K3 hK3 => ?_)
  refine WC.region ?_
  refine WL.op rfl (opW.moveV (v := .pointer (some ⟨p, 0, none⟩)) rfl ?_)
  refine WL.op rfl (opW.call (there15 wb _ _ p d hok (hS.pick (e := stE p d) (by first | exact .h0 | exact .h1 | exact .h2 | exact .h3 | exact .h4 | exact .h5 | exact .h6 | exact .h7 | exact .h8 | exact .h9 | exact .h10 | exact .h11 | exact .h12 | exact .h13 | exact .h14))) rfl ?_)
  rintro _ w ⟨rfl, d2, hd2, hok2, hS⟩
  refine WL.op rfl (opW.not rfl ?_)
  refine WL.nil ?_
  refine thenQ_n (hK3 _ _ ?_)
  refine WC.cond _ rfl (fun hc0 => ?_) (fun hc0 => ?_)
  ·
    have hr0 := hc0
    try simp only [decide_eq_true_eq, decide_eq_false_iff_not, Bool.and_eq_true, Bool.or_eq_true, Bool.and_eq_false_iff, Bool.or_eq_false_iff, Bool.not_eq_true', Bool.not_eq_false', Int.not_lt, Int.not_le] at hc0
    cases hr0
  ·
    have hr0 := hc0
    try simp only [decide_eq_true_eq, decide_eq_false_iff_not, Bool.and_eq_true, Bool.or_eq_true, Bool.and_eq_false_iff, Bool.or_eq_false_iff, Bool.not_eq_true', Bool.not_eq_false', Int.not_lt, Int.not_le] at hc0
    have hA2 := loadA_congr hd2 r
    refine WC.skip ?_
    refine thenQ_n (hK2 _ _ ?_)
    refine WC.seq (fun K4 hK4 => ?_)
    refine WC.region ?_
    refine WL.op rfl (opW.assignV (v := .slice none 0 0) rfl ?_)
    refine WL.nil ?_
    refine thenQ_n (hK4 _ _ ?_)
    refine WC.seq (fun K5 hK5 => ?_)
    refine WC.seq (fun K6 hK6 => ?_)
    refine WC.region ?_
    refine WL.op rfl (opW.fieldAddrB rfl ?_)
    refine WL.op rfl (opW.loadV rfl (hS.ld1 (b := b3) (cs := Enc.enc R) (by first | exact .h0 | exact .h1 | exact .h2 | exact .h3 | exact .h4 | exact .h5 | exact .h6 | exact .h7 | exact .h8 | exact .h9 | exact .h10 | exact .h11 | exact .h12 | exact .h13 | exact .h14) (Ready.at_roles R)) ?_)
    refine WL.op rfl (opW.lenV rfl ((hr _ (hS.sub (by repeat (first | with_reducible exact List.nil_sublist _ | with_reducible exact List.Sublist.refl _ | with_reducible refine List.Sublist.cons₂ _ ?_ | with_reducible refine List.Sublist.cons _ ?_))))) ?_)
    refine WL.op rfl (opW.moveI rfl ?_)
    refine WL.nil ?_
    refine thenQ_n (hK6 _ _ ?_)
    refine WC.block ?_
    refine WC.loop (fun q f w => ∃ (k : Nat) (v6 : Value), Fits [(0, .pointer (some ⟨p, 0, none⟩)), (3, .pointer (some ⟨b3, 0, none⟩)), (6, v6), (13, R.roles.v), (14, .int .i64 (r.length : Int)), (15, .int .i64 (k : Int))] f ∧ St wb (ownE v6 59 (loadA d2 (r.take k)) :: stE p d2 :: blkE b3 (Enc.enc R) 41 :: S) w ∧ k ≤ r.length ∧ q = r.length - k) (r.length) ?_ ?_
    ·
      exact ⟨0, .slice none 0 0, ⟨rfl, rfl, rfl, rfl, rfl, rfl, trivial⟩, (show St wb (ownE (.slice none 0 0) 59 ([] : List Account) :: stE p d2 :: blkE b3 (Enc.enc R) 41 :: S) w from (((hS.pick (e := blkE b3 (Enc.enc R) 41) (by first | exact .h0 | exact .h1 | exact .h2 | exact .h3 | exact .h4 | exact .h5 | exact .h6 | exact .h7 | exact .h8 | exact .h9 | exact .h10 | exact .h11 | exact .h12 | exact .h13 | exact .h14)).pick (e := stE p d2) (by first | exact .h0 | exact .h1 | exact .h2 | exact .h3 | exact .h4 | exact .h5 | exact .h6 | exact .h7 | exact .h8 | exact .h9 | exact .h10 | exact .h11 | exact .h12 | exact .h13 | exact .h14)).nilOwn 59).sub (by repeat (first | with_reducible exact List.nil_sublist _ | with_reducible exact List.Sublist.refl _ | with_reducible refine List.Sublist.cons₂ _ ?_ | with_reducible refine List.Sublist.cons _ ?_))), Nat.zero_le _, rfl⟩
    ·
      rintro q f w ⟨k, v6, hfit, hS, hk0, hm⟩
      refine WC.fits _ hfit (fun g => ?_)
      clear hfit
      refine WC.seq (fun K7 hK7 => ?_)
      refine WC.region ?_
      refine WL.op rfl (opW.lss rfl rfl ?_)
      refine WL.nil ?_
      refine thenQ_n (hK7 _ _ ?_)
      refine WC.seq (fun K8 hK8 => ?_)
      refine WC.cond _ rfl (fun hc1 => ?_) (fun hc1 => ?_)
      ·
        have hr1 := hc1
        try simp only [decide_eq_true_eq, decide_eq_false_iff_not, Bool.and_eq_true, Bool.or_eq_true, Bool.and_eq_false_iff, Bool.or_eq_false_iff, Bool.not_eq_true', Bool.not_eq_false', Int.not_lt, Int.not_le] at hc1
        have hkl : k < r.length := by omega
        have hln := loadA_len d2 (r.take k)
        rw [List.length_take] at hln
        refine WC.skip ?_
        refine thenQ_n (hK8 _ _ ?_)
        refine WC.seq (fun K9 hK9 => ?_)
        refine WC.block ?_
        refine WC.seq (fun K10 hK10 => ?_)
        refine WC.region ?_
        refine WL.op rfl (opW.idxV rfl ((hr _ (hS.sub (by repeat (first | with_reducible exact List.nil_sublist _ | with_reducible exact List.Sublist.refl _ | with_reducible refine List.Sublist.cons₂ _ ?_ | with_reducible refine List.Sublist.cons _ ?_))))) rfl (by omega) ?_)
        refine WL.op rfl (opW.loadV rfl (((hr _ (hS.sub (by repeat (first | with_reducible exact List.nil_sublist _ | with_reducible exact List.Sublist.refl _ | with_reducible refine List.Sublist.cons₂ _ ?_ | with_reducible refine List.Sublist.cons _ ?_)))).isPt hkl).ldA (Enc.size_eq r[k])) ?_)
        refine WL.op rfl (opW.allocA hS ?_)
        intro b8 w _ hS
        refine WL.op0 (opW.storeE hS rfl rfl (by first | exact .h0 | exact .h1 | exact .h2 | exact .h3 | exact .h4 | exact .h5 | exact .h6 | exact .h7 | exact .h8 | exact .h9 | exact .h10 | exact .h11 | exact .h12 | exact .h13 | exact .h14) (by first | rfl | exact Enc.size_eq _) ?_)
        intro w hS; replace hS := hS _ (by first | exact .h0 | exact .h1 | exact .h2 | exact .h3 | exact .h4 | exact .h5 | exact .h6 | exact .h7 | exact .h8 | exact .h9 | exact .h10 | exact .h11 | exact .h12 | exact .h13 | exact .h14)
        refine WL.nil ?_
        refine thenQ_n (hK10 _ _ ?_)
        refine WC.region ?_
        refine WL.op rfl (opW.moveV (v := v6) rfl ?_)
        refine WL.op rfl (opW.moveV (v := .pointer (some ⟨p, 0, none⟩)) rfl ?_)
        refine WL.op rfl (opW.fieldAddrB rfl ?_)
        refine WL.op rfl (opW.loadV rfl (hS.ldF (b := b8) (cs := Enc.enc r[k]) (o := 0) (by first | exact .h0 | exact .h1 | exact .h2 | exact .h3 | exact .h4 | exact .h5 | exact .h6 | exact .h7 | exact .h8 | exact .h9 | exact .h10 | exact .h11 | exact .h12 | exact .h13 | exact .h14) (Role.ex_key _) (by rw [Enc.size_eq]; decide)) ?_)
        refine WL.op rfl (opW.call (get13 _ p d2 r[k].key (hS.stAt (by first | exact .h0 | exact .h1 | exact .h2 | exact .h3 | exact .h4 | exact .h5 | exact .h6 | exact .h7 | exact .h8 | exact .h9 | exact .h10 | exact .h11 | exact .h12 | exact .h13 | exact .h14))) rfl ?_)
        rintro _ w ⟨rfl, hw⟩; replace hS := hS.bel hw
        refine WL.op rfl (opW.buildSl hS (([d2.get r[k].key] : List Account)) [.agg (Enc.enc (d2.get r[k].key))] rfl rfl rfl rfl (by decide) ?_)
        intro b24 w hw hS
        refine WL.op rfl (opW.appendOwn (α := Account) (xs := loadA d2 (r.take k)) (ys := [d2.get r[k].key]) rfl hS rfl (by first | exact .h0 | exact .h1 | exact .h2 | exact .h3 | exact .h4 | exact .h5 | exact .h6 | exact .h7 | exact .h8 | exact .h9 | exact .h10 | exact .h11 | exact .h12 | exact .h13 | exact .h14) (hS.sl (v := .slice (some ⟨b24, 0, none⟩) 1 1) (xs := ([d2.get r[k].key] : List Account)) (by first | exact .h0 | exact .h1 | exact .h2 | exact .h3 | exact .h4 | exact .h5 | exact .h6 | exact .h7 | exact .h8 | exact .h9 | exact .h10 | exact .h11 | exact .h12 | exact .h13 | exact .h14)) (by simp only [List.length_cons, List.length_nil]; omega) (by simp only [maxLen, List.length_cons, List.length_nil]; omega) ?_)
        intro v25 w hS; replace hS := hS _ (by first | exact .h0 | exact .h1 | exact .h2 | exact .h3 | exact .h4 | exact .h5 | exact .h6 | exact .h7 | exact .h8 | exact .h9 | exact .h10 | exact .h11 | exact .h12 | exact .h13 | exact .h14)
        refine WL.op rfl (opW.assignV (v := v25) rfl ?_)
        refine WL.nil ?_
        refine blockQ_n ?_
        refine thenQ_n (hK9 _ _ ?_)
        refine WC.region ?_
        refine WL.op rfl (opW.add rfl rfl (wrap_i64 (by omega)) ?_)
        refine WL.op rfl (opW.moveI rfl ?_)
        refine WL.nil ?_
        refine thenQ_n ?_
        rw [← loadA_take hkl] at hS
        exact ⟨r.length - (k + 1), by omega, k + 1, v25, ⟨rfl, rfl, rfl, rfl, rfl, congrArg (Value.int .i64) (by omega), trivial⟩, (((hS.pick (e := blkE b3 (Enc.enc R) 41) (by first | exact .h0 | exact .h1 | exact .h2 | exact .h3 | exact .h4 | exact .h5 | exact .h6 | exact .h7 | exact .h8 | exact .h9 | exact .h10 | exact .h11 | exact .h12 | exact .h13 | exact .h14)).pick (e := stE p d2) (by first | exact .h0 | exact .h1 | exact .h2 | exact .h3 | exact .h4 | exact .h5 | exact .h6 | exact .h7 | exact .h8 | exact .h9 | exact .h10 | exact .h11 | exact .h12 | exact .h13 | exact .h14)).pick (e := ownE v25 59 (loadA d2 (r.take (k + 1)))) (by first | exact .h0 | exact .h1 | exact .h2 | exact .h3 | exact .h4 | exact .h5 | exact .h6 | exact .h7 | exact .h8 | exact .h9 | exact .h10 | exact .h11 | exact .h12 | exact .h13 | exact .h14)).sub (by repeat (first | with_reducible exact List.nil_sublist _ | with_reducible exact List.Sublist.refl _ | with_reducible refine List.Sublist.cons₂ _ ?_ | with_reducible refine List.Sublist.cons _ ?_)), by omega, rfl⟩
      ·
        have hr1 := hc1
        try simp only [decide_eq_true_eq, decide_eq_false_iff_not, Bool.and_eq_true, Bool.or_eq_true, Bool.and_eq_false_iff, Bool.or_eq_false_iff, Bool.not_eq_true', Bool.not_eq_false', Int.not_lt, Int.not_le] at hc1
        have hkk : r.take k = r := List.take_of_length_le (by omega)
        rw [hkk] at hS
        have hln := loadA_len d2 r
        refine WC.exit ?_
        refine thenQ_e ?_
        refine thenQ_e ?_
        refine blockQ_hit ?_
        refine thenQ_n (hK5 _ _ ?_)
        refine WC.seq (fun K11 hK11 => ?_)
        refine WC.seq (fun K12 hK12 => ?_)
        refine WC.draw 28 (.look 0 (.look 1 (.look 2 (.look 3 (.look 4 (.look 5 (.look 6 (.look 7 (.look 8 (.look 9 (.look 10 (.look 11 (.look 12 (.look 13 (.look 14 (.look 15 (.one 16 (.look 17 (.look 18 (.look 19 (.look 20 (.look 21 (.look 22 (.look 23 (.look 24 (.look 25 (.look 26 (.look 27 .nil)))))))))))))))))))))))))))) (by kernel_rfl) (fun _ _ _ h => h) (fun w1 hw1 => ?_)
        replace hS := hS.bel hw1
        have hS1 := hS
        have hT := St.start w1
        refine ML.look rfl rfl rfl (fun w hw => (by have hS := hS1.bel hw; exact opW.moveV (v := v6) rfl ⟨rfl, rfl⟩)) ?_
        refine ML.look rfl rfl rfl (fun w hw => (by have hS := hS1.bel hw; exact opW.lenV rfl ((hS.sl (v := v6) (xs := (loadA d2 r)) (by first | exact .h0 | exact .h1 | exact .h2 | exact .h3 | exact .h4 | exact .h5 | exact .h6 | exact .h7 | exact .h8 | exact .h9 | exact .h10 | exact .h11 | exact .h12 | exact .h13 | exact .h14))) ⟨rfl, rfl⟩)) ?_
        refine ML.look rfl rfl rfl (fun w hw => (by have hS := hS1.bel hw; exact opW.eql rfl rfl ⟨rfl, rfl⟩)) ?_
        refine ML.look rfl rfl rfl (fun w hw => (by have hS := hS1.bel hw; exact opW.moveB rfl ⟨rfl, rfl⟩)) ?_
        refine ML.lookG  _ 30 rfl rfl rfl rfl rfl rfl (fun hg31 w hw => (by have hS := hS1.bel hw; exact opW.fieldAddrB rfl ⟨rfl, rfl⟩)) ?_
        refine ML.lookG (E := R.roles.v) _ 30 rfl rfl rfl rfl rfl rfl (fun hg32 w hw => (by have hS := hS1.bel hw; have h0 : 0 < r.length := (by rcases Nat.eq_zero_or_pos r.length with h | h; (exfalso; revert hg32; simp [hln, h]); exact h); have h0a : 0 < (loadA d2 r).length := (by omega); exact opW.loadV (by first | exact gv_of rfl hg32 | rfl) (hS.ld1 (b := b3) (cs := Enc.enc R) (by first | exact .h0 | exact .h1 | exact .h2 | exact .h3 | exact .h4 | exact .h5 | exact .h6 | exact .h7 | exact .h8 | exact .h9 | exact .h10 | exact .h11 | exact .h12 | exact .h13 | exact .h14) (Ready.at_roles R)) ⟨rfl, rfl⟩)) ?_
        refine ML.lookG (E := (elemP R.roles.v 0 (Enc.sz Role))) _ 30 rfl rfl rfl rfl rfl rfl (fun hg33 w hw => (by have hS := hS1.bel hw; have h0 : 0 < r.length := (by rcases Nat.eq_zero_or_pos r.length with h | h; (exfalso; revert hg33; simp [hln, h]); exact h); have h0a : 0 < (loadA d2 r).length := (by omega); exact opW.idxV (by first | exact gv_of rfl hg33 | rfl) ((hr _ (hS.sub (by repeat (first | with_reducible exact List.nil_sublist _ | with_reducible exact List.Sublist.refl _ | with_reducible refine List.Sublist.cons₂ _ ?_ | with_reducible refine List.Sublist.cons _ ?_))))) rfl (by omega) ⟨rfl, rfl⟩)) ?_
        refine ML.lookG (E := (ptrAdd (elemP R.roles.v 0 (Enc.sz Role)) 33)) _ 30 rfl rfl rfl rfl rfl rfl (fun hg34 w hw => (by have hS := hS1.bel hw; have h0 : 0 < r.length := (by rcases Nat.eq_zero_or_pos r.length with h | h; (exfalso; revert hg34; simp [hln, h]); exact h); have h0a : 0 < (loadA d2 r).length := (by omega); exact opW.fieldAddr (by first | exact gv_of rfl hg34 | rfl) ((hr _ (hS.sub (by repeat (first | with_reducible exact List.nil_sublist _ | with_reducible exact List.Sublist.refl _ | with_reducible refine List.Sublist.cons₂ _ ?_ | with_reducible refine List.Sublist.cons _ ?_)))).isP h0) ⟨rfl, rfl⟩)) ?_
        refine ML.lookG (E := .bool (r.getD 0 zr).writes) _ 30 rfl rfl rfl rfl rfl rfl (fun hg35 w hw => (by have hS := hS1.bel hw; have h0 : 0 < r.length := (by rcases Nat.eq_zero_or_pos r.length with h | h; (exfalso; revert hg35; simp [hln, h]); exact h); have h0a : 0 < (loadA d2 r).length := (by omega); exact opW.loadV (by first | exact gv_of rfl hg35 | rfl) ((show Ld _ _ _ (ptrAdd (elemP R.roles.v 0 (Enc.sz Role)) 33) (.bool (r.getD 0 zr).writes) from by rw [getD_of h0]; exact Ld.pt1 ((hr _ (hS.sub (by repeat (first | with_reducible exact List.nil_sublist _ | with_reducible exact List.Sublist.refl _ | with_reducible refine List.Sublist.cons₂ _ ?_ | with_reducible refine List.Sublist.cons _ ?_)))).isPt h0) 33 (Role.at_writes _))) ⟨rfl, rfl⟩)) ?_
        refine ML.lookG  _ 30 rfl rfl rfl rfl rfl rfl (fun hg36 w hw => (by have hS := hS1.bel hw; exact opW.not (by first | exact gv_of rfl hg36 | rfl) ⟨rfl, rfl⟩)) ?_
        refine ML.look rfl rfl rfl (fun w hw => (by have hS := hS1.bel hw; exact opW.pickOr rfl rfl (by first | rfl) ⟨rfl, rfl⟩)) ?_
        refine ML.look rfl rfl rfl (fun w hw => (by have hS := hS1.bel hw; exact opW.moveB rfl ⟨rfl, rfl⟩)) ?_
        refine ML.lookG (E := v6) _ 38 rfl rfl rfl rfl rfl rfl (fun hg39 w hw => (by have hS := hS1.bel hw; exact opW.moveV (v := v6) rfl ⟨rfl, rfl⟩)) ?_
        refine ML.lookG (E := (elemP v6 0 (Enc.sz Account))) _ 38 rfl rfl rfl rfl rfl rfl (fun hg40 w hw => (by have hS := hS1.bel hw; have h0 : 0 < r.length := (by rcases Nat.eq_zero_or_pos r.length with h | h; (exfalso; revert hg40; simp [hln, h]); exact h); have h0a : 0 < (loadA d2 r).length := (by omega); exact opW.idxV (by first | exact gv_of rfl hg40 | rfl) ((hS.sl (v := v6) (xs := (loadA d2 r)) (by first | exact .h0 | exact .h1 | exact .h2 | exact .h3 | exact .h4 | exact .h5 | exact .h6 | exact .h7 | exact .h8 | exact .h9 | exact .h10 | exact .h11 | exact .h12 | exact .h13 | exact .h14))) rfl (by omega) ⟨rfl, rfl⟩)) ?_
        refine ML.lookG (E := (ptrAdd (elemP v6 0 (Enc.sz Account)) 1)) _ 38 rfl rfl rfl rfl rfl rfl (fun hg41 w hw => (by have hS := hS1.bel hw; have h0 : 0 < r.length := (by rcases Nat.eq_zero_or_pos r.length with h | h; (exfalso; revert hg41; simp [hln, h]); exact h); have h0a : 0 < (loadA d2 r).length := (by omega); exact opW.fieldAddr (by first | exact gv_of rfl hg41 | rfl) ((hS.sl (v := v6) (xs := (loadA d2 r)) (by first | exact .h0 | exact .h1 | exact .h2 | exact .h3 | exact .h4 | exact .h5 | exact .h6 | exact .h7 | exact .h8 | exact .h9 | exact .h10 | exact .h11 | exact .h12 | exact .h13 | exact .h14)).isP h0a) ⟨rfl, rfl⟩)) ?_
        refine ML.lookG (E := .agg (Enc.enc ((loadA d2 r).getD 0 az).owner)) _ 38 rfl rfl rfl rfl rfl rfl (fun hg42 w hw => (by have hS := hS1.bel hw; have h0 : 0 < r.length := (by rcases Nat.eq_zero_or_pos r.length with h | h; (exfalso; revert hg42; simp [hln, h]); exact h); have h0a : 0 < (loadA d2 r).length := (by omega); exact opW.loadV (by first | exact gv_of rfl hg42 | rfl) ((show Ld _ _ _ (ptrAdd (elemP v6 0 (Enc.sz Account)) 1) (.agg (Enc.enc ((loadA d2 r).getD 0 az).owner)) from by rw [getD_of h0a]; exact Ld.ptA ((hS.sl (v := v6) (xs := (loadA d2 r)) (by first | exact .h0 | exact .h1 | exact .h2 | exact .h3 | exact .h4 | exact .h5 | exact .h6 | exact .h7 | exact .h8 | exact .h9 | exact .h10 | exact .h11 | exact .h12 | exact .h13 | exact .h14)).isPt h0a) 1 (Account.ex_owner _) (by rw [Enc.size_eq]; decide))) ⟨rfl, rfl⟩)) ?_
        refine ML.oneG (.agg (Enc.enc sysK)) _ 38 hT.old rfl rfl rfl rfl rfl rfl (fun hg43 => opW.call (sys_ok _) rfl (fun _ _ h => h)) (fun w hw => ?_)
        replace hT := hT.bel hw
        have hS := hS1.merge hT
        try simp only [List.cons_append, List.nil_append] at hS
        refine ML.lookG  _ 38 rfl rfl rfl rfl rfl rfl (fun hg44 w hw => (by have hS := hS1.bel hw; exact opW.neqE (by first | exact gv_of rfl hg44 | rfl) (by first | exact gv_of rfl hg44 | rfl) ⟨rfl, rfl⟩)) ?_
        refine ML.look rfl rfl rfl (fun w hw => (by have hS := hS1.bel hw; exact opW.pickOr rfl rfl (by first | rfl) ⟨rfl, rfl⟩)) ?_
        refine ML.look rfl rfl rfl (fun w hw => (by have hS := hS1.bel hw; exact opW.moveB rfl ⟨rfl, rfl⟩)) ?_
        refine ML.lookG (E := v6) _ 46 rfl rfl rfl rfl rfl rfl (fun hg47 w hw => (by have hS := hS1.bel hw; exact opW.moveV (v := v6) rfl ⟨rfl, rfl⟩)) ?_
        refine ML.lookG (E := (elemP v6 0 (Enc.sz Account))) _ 46 rfl rfl rfl rfl rfl rfl (fun hg48 w hw => (by have hS := hS1.bel hw; have h0 : 0 < r.length := (by rcases Nat.eq_zero_or_pos r.length with h | h; (exfalso; revert hg48; simp [hln, h]); exact h); have h0a : 0 < (loadA d2 r).length := (by omega); exact opW.idxV (by first | exact gv_of rfl hg48 | rfl) ((hS.sl (v := v6) (xs := (loadA d2 r)) (by first | exact .h0 | exact .h1 | exact .h2 | exact .h3 | exact .h4 | exact .h5 | exact .h6 | exact .h7 | exact .h8 | exact .h9 | exact .h10 | exact .h11 | exact .h12 | exact .h13 | exact .h14))) rfl (by omega) ⟨rfl, rfl⟩)) ?_
        refine ML.lookG (E := (ptrAdd (elemP v6 0 (Enc.sz Account)) 0)) _ 46 rfl rfl rfl rfl rfl rfl (fun hg49 w hw => (by have hS := hS1.bel hw; have h0 : 0 < r.length := (by rcases Nat.eq_zero_or_pos r.length with h | h; (exfalso; revert hg49; simp [hln, h]); exact h); have h0a : 0 < (loadA d2 r).length := (by omega); exact opW.fieldAddr (by first | exact gv_of rfl hg49 | rfl) ((hS.sl (v := v6) (xs := (loadA d2 r)) (by first | exact .h0 | exact .h1 | exact .h2 | exact .h3 | exact .h4 | exact .h5 | exact .h6 | exact .h7 | exact .h8 | exact .h9 | exact .h10 | exact .h11 | exact .h12 | exact .h13 | exact .h14)).isP h0a) ⟨rfl, rfl⟩)) ?_
        refine ML.lookG (E := .int .u64 ((((loadA d2 r).getD 0 az).coins : Nat) : Int)) _ 46 rfl rfl rfl rfl rfl rfl (fun hg50 w hw => (by have hS := hS1.bel hw; have h0 : 0 < r.length := (by rcases Nat.eq_zero_or_pos r.length with h | h; (exfalso; revert hg50; simp [hln, h]); exact h); have h0a : 0 < (loadA d2 r).length := (by omega); exact opW.loadV (by first | exact gv_of rfl hg50 | rfl) ((show Ld _ _ _ (ptrAdd (elemP v6 0 (Enc.sz Account)) 0) (.int .u64 ((((loadA d2 r).getD 0 az).coins : Nat) : Int)) from by rw [getD_of h0a]; exact Ld.pt1 ((hS.sl (v := v6) (xs := (loadA d2 r)) (by first | exact .h0 | exact .h1 | exact .h2 | exact .h3 | exact .h4 | exact .h5 | exact .h6 | exact .h7 | exact .h8 | exact .h9 | exact .h10 | exact .h11 | exact .h12 | exact .h13 | exact .h14)).isPt h0a) 0 (Account.at_coins _))) ⟨rfl, rfl⟩)) ?_
        refine ML.lookG  _ 46 rfl rfl rfl rfl rfl rfl (fun hg51 w hw => (by have hS := hS1.bel hw; exact opW.fieldAddrB rfl ⟨rfl, rfl⟩)) ?_
        refine ML.lookG (E := .int .u64 ((R.fee : Nat) : Int)) _ 46 rfl rfl rfl rfl rfl rfl (fun hg52 w hw => (by have hS := hS1.bel hw; exact opW.loadV (by first | exact gv_of rfl hg52 | rfl) (hS.ld1 (b := b3) (cs := Enc.enc R) (by first | exact .h0 | exact .h1 | exact .h2 | exact .h3 | exact .h4 | exact .h5 | exact .h6 | exact .h7 | exact .h8 | exact .h9 | exact .h10 | exact .h11 | exact .h12 | exact .h13 | exact .h14) (Ready.at_fee R)) ⟨rfl, rfl⟩)) ?_
        refine ML.lookG  _ 46 rfl rfl rfl rfl rfl rfl (fun hg53 w hw => (by have hS := hS1.bel hw; exact opW.lss (by first | exact gv_of rfl hg53 | rfl) (by first | exact gv_of rfl hg53 | rfl) ⟨rfl, rfl⟩)) ?_
        refine ML.look rfl rfl rfl (fun w hw => (by have hS := hS1.bel hw; exact opW.pickOr rfl rfl (by first | rfl) ⟨rfl, rfl⟩)) ?_
        refine ML.nil ?_
        refine thenQ_n (hK12 _ _ ?_)
        refine WC.cond _ rfl (fun hc2 => ?_) (fun hc2 => ?_)
        ·
          have hr2 := hc2
          try simp only [decide_eq_true_eq, decide_eq_false_iff_not, Bool.and_eq_true, Bool.or_eq_true, Bool.and_eq_false_iff, Bool.or_eq_false_iff, Bool.not_eq_true', Bool.not_eq_false', Int.not_lt, Int.not_le] at hc2
          have hno : payB R.fee r (loadA d2 r) = false := by
            unfold payB
            simp only [Bool.or_eq_true, decide_eq_true_eq, Bool.not_eq_true'] at hr2
            rcases hr2 with ((h | h) | h) | h
            · have h0 : r = [] := List.length_eq_zero_iff.1 (by omega)
              rw [h0]; rfl
            · rw [h]; rfl
            · rw [h, Bool.and_false, Bool.false_and]
            · rw [decide_eq_false (p := R.fee ≤ ((loadA d2 r).getD 0 az).coins) (by omega), Bool.and_false]
          refine WC.seq (fun K13 hK13 => ?_)
          refine WC.region ?_
          refine WL.op rfl (opW.assignV (v := .slice none 0 0) rfl ?_)
          refine WL.op rfl (opW.assignI rfl ?_)
          refine WL.nil ?_
          refine thenQ_n (hK13 _ _ ?_)
          refine WC.ret ?_
          refine thenQ_r ?_
          refine bodyQ_ret (.tmpV (v := .slice none 0 0) rfl (.tmpI rfl .nil)) ?_
          rw [← hA2]
          exact ⟨d2, hd2, hok2, .inl ⟨hno, rfl, hS.sub (by repeat (first | with_reducible exact List.nil_sublist _ | with_reducible exact List.Sublist.refl _ | with_reducible refine List.Sublist.cons₂ _ ?_ | with_reducible refine List.Sublist.cons _ ?_))⟩⟩
        ·
          have hr2 := hc2
          try simp only [decide_eq_true_eq, decide_eq_false_iff_not, Bool.and_eq_true, Bool.or_eq_true, Bool.and_eq_false_iff, Bool.or_eq_false_iff, Bool.not_eq_true', Bool.not_eq_false', Int.not_lt, Int.not_le] at hc2
          have hyes : payB R.fee r (loadA d2 r) = true := by
            unfold payB
            simp only [Bool.or_eq_false_iff, decide_eq_false_iff_not, Bool.not_eq_false'] at hr2
            obtain ⟨⟨⟨h1, h2⟩, h3⟩, h4⟩ := hr2
            rw [h2, decide_eq_true (p := ((loadA d2 r).getD 0 az).owner = sysK) (by simpa using h3), decide_eq_true (p := R.fee ≤ ((loadA d2 r).getD 0 az).coins) (by omega)]; rfl
          have h0 : 0 < r.length := by
            rcases Nat.eq_zero_or_pos r.length with h | h
            · rw [List.length_eq_zero_iff.1 h, payB_nil] at hyes; cases hyes
            · exact h
          have h0a : 0 < (loadA d2 r).length := by omega
          have hle : R.fee ≤ ((loadA d2 r).getD 0 az).coins := by
            unfold payB at hyes
            simp only [Bool.and_eq_true, decide_eq_true_eq] at hyes
            exact hyes.2
          have hcw : ((loadA d2 r).getD 0 az).coins < 18446744073709551616 := by
            rw [getD_of h0a, loadA_get h0a h0, hd2]
            exact (hsok _).1
          refine WC.skip ?_
          refine thenQ_n (hK11 _ _ ?_)
          refine WC.seq (fun K14 hK14 => ?_)
          refine WC.draw 9 (.look 0 (.look 1 (.look 2 (.look 3 (.look 4 (.look 5 (.look 6 (.look 7 (.look 8 (.one 9 .nil)))))))))) (by kernel_rfl) (fun _ _ _ h => h) (fun w1 hw1 => ?_)
          replace hS := hS.bel hw1
          have hS1 := hS
          have hT := St.start w1
          refine ML.look rfl rfl rfl (fun w hw => (by have hS := hS1.bel hw; exact opW.moveV (v := v6) rfl ⟨rfl, rfl⟩)) ?_
          refine ML.look rfl rfl rfl (fun w hw => (by have hS := hS1.bel hw; exact opW.idxV rfl ((hS.sl (v := v6) (xs := (loadA d2 r)) (by first | exact .h0 | exact .h1 | exact .h2 | exact .h3 | exact .h4 | exact .h5 | exact .h6 | exact .h7 | exact .h8 | exact .h9 | exact .h10 | exact .h11 | exact .h12 | exact .h13 | exact .h14))) rfl (by omega) ⟨rfl, rfl⟩)) ?_
          refine ML.look rfl rfl rfl (fun w hw => (by have hS := hS1.bel hw; exact opW.fieldAddr rfl ((hS.sl (v := v6) (xs := (loadA d2 r)) (by first | exact .h0 | exact .h1 | exact .h2 | exact .h3 | exact .h4 | exact .h5 | exact .h6 | exact .h7 | exact .h8 | exact .h9 | exact .h10 | exact .h11 | exact .h12 | exact .h13 | exact .h14)).isP h0a) ⟨rfl, rfl⟩)) ?_
          refine ML.look rfl rfl rfl (fun w hw => (by have hS := hS1.bel hw; exact opW.loadV rfl ((show Ld _ _ _ (ptrAdd (elemP v6 0 (Enc.sz Account)) 0) (.int .u64 ((((loadA d2 r).getD 0 az).coins : Nat) : Int)) from by rw [getD_of h0a]; exact Ld.pt1 ((hS.sl (v := v6) (xs := (loadA d2 r)) (by first | exact .h0 | exact .h1 | exact .h2 | exact .h3 | exact .h4 | exact .h5 | exact .h6 | exact .h7 | exact .h8 | exact .h9 | exact .h10 | exact .h11 | exact .h12 | exact .h13 | exact .h14)).isPt h0a) 0 (Account.at_coins _))) ⟨rfl, rfl⟩)) ?_
          refine ML.look rfl rfl rfl (fun w hw => (by have hS := hS1.bel hw; exact opW.fieldAddrB rfl ⟨rfl, rfl⟩)) ?_
          refine ML.look rfl rfl rfl (fun w hw => (by have hS := hS1.bel hw; exact opW.loadV rfl (hS.ld1 (b := b3) (cs := Enc.enc R) (by first | exact .h0 | exact .h1 | exact .h2 | exact .h3 | exact .h4 | exact .h5 | exact .h6 | exact .h7 | exact .h8 | exact .h9 | exact .h10 | exact .h11 | exact .h12 | exact .h13 | exact .h14) (Ready.at_fee R)) ⟨rfl, rfl⟩)) ?_
          refine ML.look rfl rfl rfl (fun w hw => (by have hS := hS1.bel hw; exact opW.sub rfl rfl (nsub hle hcw) ⟨rfl, rfl⟩)) ?_
          refine ML.look rfl rfl rfl (fun w hw => (by have hS := hS1.bel hw; exact opW.idxV rfl ((hS.sl (v := v6) (xs := (loadA d2 r)) (by first | exact .h0 | exact .h1 | exact .h2 | exact .h3 | exact .h4 | exact .h5 | exact .h6 | exact .h7 | exact .h8 | exact .h9 | exact .h10 | exact .h11 | exact .h12 | exact .h13 | exact .h14))) rfl (by omega) ⟨rfl, rfl⟩)) ?_
          refine ML.look rfl rfl rfl (fun w hw => (by have hS := hS1.bel hw; exact opW.fieldAddr rfl ((hS.sl (v := v6) (xs := (loadA d2 r)) (by first | exact .h0 | exact .h1 | exact .h2 | exact .h3 | exact .h4 | exact .h5 | exact .h6 | exact .h7 | exact .h8 | exact .h9 | exact .h10 | exact .h11 | exact .h12 | exact .h13 | exact .h14)).isP h0a) ⟨rfl, rfl⟩)) ?_
          refine ML.put0 rfl rfl rfl (opW.storeOwn (v := v6) (u := .int .u64 ((((loadA d2 r).getD 0 az).coins - R.fee : Nat) : Int)) (sz := 1) (xs := (loadA d2 r)) (i := 0) (off := 0) (y' := { ((loadA d2 r).getD 0 az) with coins := ((loadA d2 r).getD 0 az).coins - R.fee }) hS (by first | exact .h0 | exact .h1 | exact .h2 | exact .h3 | exact .h4 | exact .h5 | exact .h6 | exact .h7 | exact .h8 | exact .h9 | exact .h10 | exact .h11 | exact .h12 | exact .h13 | exact .h14) h0a rfl rfl rfl (by decide) (one_int _ _) (by rw [getD_of h0a]; exact Account.set_coins (loadA d2 r)[0] ((loadA d2 r)[0].coins - R.fee)) ?_)
          intro w hS; replace hS := hS _ (by first | exact .h0 | exact .h1 | exact .h2 | exact .h3 | exact .h4 | exact .h5 | exact .h6 | exact .h7 | exact .h8 | exact .h9 | exact .h10 | exact .h11 | exact .h12 | exact .h13 | exact .h14)
          refine ML.nil ?_
          replace hS := (show St wb (ownE v6 59 (paidA R.fee (loadA d2 r)) :: stE p d2 :: blkE b3 (Enc.enc R) 41 :: S) _ from hS)
          refine thenQ_n (hK14 _ _ ?_)
          refine WC.seq (fun K15 hK15 => ?_)
          refine WC.region ?_
          refine WL.op rfl (opW.moveV (v := v6) rfl ?_)
          refine WL.op rfl (opW.call (clip_a _ v6 (paidA R.fee (loadA d2 r)) (hS.sl (v := v6) (xs := (paidA R.fee (loadA d2 r))) (by first | exact .h0 | exact .h1 | exact .h2 | exact .h3 | exact .h4 | exact .h5 | exact .h6 | exact .h7 | exact .h8 | exact .h9 | exact .h10 | exact .h11 | exact .h12 | exact .h13 | exact .h14))) rfl ?_)
          rintro v65 w ⟨hv65, hw⟩; replace hS := hS.bel hw
          replace hS := hS.cutOwn (v := v6) (T := 59) (xs := (paidA R.fee (loadA d2 r))) (by first | exact .h0 | exact .h1 | exact .h2 | exact .h3 | exact .h4 | exact .h5 | exact .h6 | exact .h7 | exact .h8 | exact .h9 | exact .h10 | exact .h11 | exact .h12 | exact .h13 | exact .h14)
          rw [← hv65] at hS
          obtain ⟨sv, rfl⟩ := (hS.sl (v := v65) (xs := (paidA R.fee (loadA d2 r))) (by first | exact .h0 | exact .h1 | exact .h2 | exact .h3 | exact .h4 | exact .h5 | exact .h6 | exact .h7 | exact .h8 | exact .h9 | exact .h10 | exact .h11 | exact .h12 | exact .h13 | exact .h14)).asV
          refine WL.op rfl (opW.assignV (v := sv.v) rfl ?_)
          refine WL.op rfl (opW.assignI rfl ?_)
          refine WL.nil ?_
          refine thenQ_n (hK15 _ _ ?_)
          refine WC.ret ?_
          refine bodyQ_ret (.tmpV (v := sv.v) rfl (.tmpI rfl .nil)) ?_
          rw [← hA2]
          exact ⟨d2, hd2, hok2, .inr ⟨hyes, sv, rfl, hS.sub (by repeat (first | with_reducible exact List.nil_sublist _ | with_reducible exact List.Sublist.refl _ | with_reducible refine List.Sublist.cons₂ _ ?_ | with_reducible refine List.Sublist.cons _ ?_))⟩⟩

end Go.Fer
