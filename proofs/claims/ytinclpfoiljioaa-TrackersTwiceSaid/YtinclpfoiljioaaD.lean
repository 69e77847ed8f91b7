/- TrackersOrder -/
import Derived.Test.YtinclpfoiljioaaC
set_option linter.all false
namespace Go.Fer
open Go Go.Proofs Go.RowKit

def sig (n a i : Nat) : Nat := (n - 1 - i + a) % n
theorem sig_inj {n a i j : Nat} (hi : i < n) (hj : j < n) (h : sig n a i = sig n a j) : i = j := by
  have key : ∀ i j, i < j → j < n → sig n a i = sig n a j → False := by
    intro i j h1 h2 h3
    have h4 := Nat.sub_mod_eq_zero_of_mod_eq h3
    rw [show n - 1 - i + a - (n - 1 - j + a) = j - i from by omega, Nat.mod_eq_of_lt (by omega)] at h4
    omega
  rcases Nat.lt_trichotomy i j with h1 | h1 | h1
  · exact (key i j h1 hj h).elim
  · exact h1
  · exact (key j i h1 hi h.symm).elim
theorem sig_nodup (n a : Nat) : ((List.range n).map (sig n a)).Nodup := by
  refine List.pairwise_map.2 (List.Pairwise.imp_of_mem (fun {x y} hx hy hne h => hne (sig_inj (List.mem_range.1 hx) (List.mem_range.1 hy) h)) List.nodup_range)
theorem sig_perm (n a : Nat) : ((List.range n).map (sig n a)).Perm (List.range n) := by
  have hlt : ∀ x ∈ (List.range n).map (sig n a), x < n := by
    intro x hx
    obtain ⟨i, hi, rfl⟩ := List.mem_map.1 hx
    have := List.mem_range.1 hi
    exact Nat.mod_lt _ (by omega)
  refine (List.perm_ext_iff_of_nodup (sig_nodup n a) List.nodup_range).2 fun x => ⟨fun h => List.mem_range.2 (hlt x h), fun h => ?_⟩
  apply Classical.byContradiction
  intro hc
  have h2 := nodup_length n (x :: (List.range n).map (sig n a)) (List.nodup_cons.2 ⟨hc, sig_nodup n a⟩) (fun y hy => by
    rcases List.mem_cons.1 hy with rfl | hy
    · exact List.mem_range.1 h
    · exact hlt y hy)
  simp at h2
  omega
def totN (f : Nat → Nat) (l : List Nat) : Nat := (l.map f).sum
theorem totN_perm (f : Nat → Nat) {l l' : List Nat} (h : l.Perm l') : totN f l = totN f l' := by
  unfold totN
  induction h with
  | nil => rfl
  | cons x _ ih => simp only [List.map_cons, List.sum_cons, ih]
  | swap x y l => simp only [List.map_cons, List.sum_cons]; omega
  | trans _ _ h1 h2 => rw [h1, h2]
theorem totN_add (f : Nat → Nat) (l : List Nat) (i : Nat) : totN f (l ++ [i]) = totN f l + f i := by simp [totN]
theorem sumH_min {a c : Nat} (hc : c ≤ 18446744073709551615) : sumH (min a 18446744073709551615) c = min (a + c) 18446744073709551615 := by unfold sumH; split <;> omega
def cF (xs : List Asked) (i : Nat) : Nat := (xs[i]?.map Asked.cost).getD 0
def sF (xs : List Asked) (i : Nat) : Nat := (xs[i]?.map Asked.space).getD 0
def kF (xs : List Asked) (ks : Nat → List Key) (k : Key) (i : Nat) : Nat := if k ∈ ks i then cF xs i else 0
/-- all sums are those of some of what was asked, held -/
def SumIs (xs : List Asked) (ks : Nat → List Key) (d : TrD) (l : List Nat) : Prop :=
  d.lim = ⟨18446744073709551615, 18446744073709551615, 18446744073709551615⟩ ∧ d.block = min (totN (cF xs) l) 18446744073709551615 ∧ d.space = min (totN (sF xs) l) 18446744073709551615 ∧ ∀ k, d.ofK k = min (totN (kF xs ks k) l) 18446744073709551615
theorem SumIs.ok {xs : List Asked} {ks : Nat → List Key} {d : TrD} {l : List Nat} (h : SumIs xs ks d l) : TrOk d := by
  obtain ⟨_, h2, h3, h4⟩ := h
  exact ⟨by omega, by omega, fun k => by rw [h4 k]; omega⟩
theorem SumIs.would {xs : List Asked} {ks : Nat → List Key} {d : TrD} {l : List Nat} (h : SumIs xs ks d l) (cost : Nat) (keys : List Key) (space : Nat) : wouldC d cost keys space = 0 := by
  have hk : keys.any (fun k => decide (d.lim.account < sumH (d.ofK k) cost)) = false := by
    rw [List.any_eq_false]
    intro k _
    rw [h.1]
    have := sumH_lt (d.ofK k) cost
    simp only [decide_eq_true_eq]; omega
  unfold wouldC
  rw [h.1] at hk ⊢
  have h1 := sumH_lt d.block cost
  have h2 := sumH_lt d.space space
  simp only at hk ⊢
  rw [if_neg (by omega), hk, if_neg (by decide), if_neg (by omega)]
theorem SumIs.step {xs : List Asked} {ks : Nat → List Key} {d d' : TrD} {l : List Nat} {i : Nat} (hi : i < xs.length) (h : SumIs xs ks d l) (hc : xs[i].cost ≤ 18446744073709551615) (hs : xs[i].space ≤ 18446744073709551615) (ha : AddIs d xs[i].cost (ks i) xs[i].space d') : SumIs xs ks d' (l ++ [i]) := by
  obtain ⟨h1, h2, h3, h4⟩ := h
  obtain ⟨g1, g2, g3, g4⟩ := ha
  have e1 : cF xs i = xs[i].cost := by simp [cF, hi]
  have e2 : sF xs i = xs[i].space := by simp [sF, hi]
  refine ⟨g1.trans h1, ?_, ?_, fun k => ?_⟩
  · rw [g2, h2, sumH_min hc, totN_add, e1]
  · rw [g3, h3, sumH_min hs, totN_add, e2]
  · rw [g4 k, h4 k, totN_add]
    have e3 : kF xs ks k i = if k ∈ ks i then xs[i].cost else 0 := by unfold kF; rw [e1]
    rw [e3]
    by_cases hk : k ∈ ks i
    · rw [if_pos hk, if_pos hk, sumH_min hc]
    · rw [if_neg hk, if_neg hk, Nat.add_zero]
theorem SumIs.same {xs : List Asked} {ks : Nat → List Key} {d d' : TrD} {l l' : List Nat} (h : SumIs xs ks d l) (h' : SumIs xs ks d' l') (hp : l'.Perm l) : d.block = d'.block ∧ d.space = d'.space ∧ ∀ k, d.ofK k = d'.ofK k := by
  refine ⟨?_, ?_, fun k => ?_⟩
  · rw [h.2.1, h'.2.1, totN_perm _ hp]
  · rw [h.2.2.1, h'.2.2.1, totN_perm _ hp]
  · rw [h.2.2.2, h'.2.2.2, totN_perm _ hp]
theorem keys_of {w : World} {xs : List Asked} (h : ∀ x ∈ xs, Asked.ok w x) : ∃ ks : Nat → List Key, ∀ i (hi : i < xs.length), SlR w (xs[i]'hi).keys.v (ks i) := by
  have h1 : ∀ i, ∃ l : List Key, ∀ hi : i < xs.length, SlR w (xs[i]'hi).keys.v l := by
    intro i
    by_cases hi : i < xs.length
    · obtain ⟨_, _, l, hl, _⟩ := h xs[i] (List.getElem_mem hi)
      exact ⟨l, fun _ => hl⟩
    · exact ⟨[], fun h => absurd h hi⟩
  obtain ⟨ks, hks⟩ := Classical.axiomOfChoice h1
  exact ⟨ks, hks⟩

theorem order_law (w0 : World) (v : Value) (xs : List Asked) (a : Nat) (ha8 : a ≤ 255) (hx : SlR w0 v xs) (hxo : ∀ x ∈ xs, Asked.ok w0 x) : Ret Try.prog 6 #[v, .int .u8 (a : Int)] w0 (fun r w' => r = .bool true ∧ Bel w0 w') := by
  refine Ret.enter (args := [v, .int .u8 (a : Int)]) Try.func6 rfl Try.ntmps6 Try.results6 rfl ?_
  have hS := St.start w0
  refine WC.seq (fun K1 hK1 => ?_)
  refine WC.region ?_
  refine WL.op rfl (opW.assignB rfl ?_)
  refine WL.nil ?_
  refine thenQ_n (hK1 _ _ ?_)
  refine WC.seq (fun K2 hK2 => ?_)
  refine WC.seq (fun K3 hK3 => ?_)
  refine WC.region ?_
  refine WL.op rfl (opW.moveV (v := v) rfl ?_)
  refine WL.op rfl (opW.call (great20 _ v xs (hx.bel hS.old) (fun x h => Asked.ok.bel hS.old (hxo x h))) rfl ?_)
  rintro _ w ⟨bb, rfl, hbb, hw⟩; replace hS := hS.bel hw
  refine WL.op rfl (opW.moveB rfl ?_)
  refine WL.gd _ 14 _ rfl rfl rfl rfl (fun hg15 => opW.moveV (v := v) rfl ⟨rfl, Bel.refl _⟩) (fun w hw => ?_)
  replace hS := hS.bel hw
  refine WL.gd _ 14 _ rfl rfl rfl rfl (fun hg16 => opW.lenV (by first | exact gv_of rfl hg16 | rfl) ((hx.bel hS.old)) ⟨rfl, Bel.refl _⟩) (fun w hw => ?_)
  replace hS := hS.bel hw
  refine WL.gd _ 14 _ rfl rfl rfl rfl (fun hg17 => opW.eql (by first | exact gv_of rfl hg17 | rfl) rfl ⟨rfl, Bel.refl _⟩) (fun w hw => ?_)
  replace hS := hS.bel hw
  refine WL.op rfl (opW.pickOr rfl rfl (by first | rfl) ?_)
  refine WL.nil ?_
  refine thenQ_n (hK3 _ _ ?_)
  refine WC.cond _ rfl (fun hc0 => ?_) (fun hc0 => ?_)
  ·
    have hr0 := hc0
    try simp only [decide_eq_true_eq, decide_eq_false_iff_not, Bool.and_eq_true, Bool.or_eq_true, Bool.and_eq_false_iff, Bool.or_eq_false_iff, Bool.not_eq_true', Bool.not_eq_false', Int.not_lt, Int.not_le] at hc0
    refine WC.seq (fun K4 hK4 => ?_)
    refine WC.region ?_
    refine WL.op rfl (opW.call (lives20 _) rfl ?_)
    rintro _ w ⟨rfl, hw⟩; replace hS := hS.bel hw
    refine WL.op rfl (opW.assignB rfl ?_)
    refine WL.nil ?_
    refine thenQ_n (hK4 _ _ ?_)
    refine WC.ret ?_
    refine thenQ_r ?_
    refine bodyQ_ret (.tmpB rfl .nil) ?_
    exact ⟨rfl, hS.old⟩
  ·
    have hr0 := hc0
    try simp only [decide_eq_true_eq, decide_eq_false_iff_not, Bool.and_eq_true, Bool.or_eq_true, Bool.and_eq_false_iff, Bool.or_eq_false_iff, Bool.not_eq_true', Bool.not_eq_false', Int.not_lt, Int.not_le] at hc0
    simp only [Bool.or_eq_false_iff, decide_eq_false_iff_not] at hr0
    have hsm := hbb hr0.1
    obtain ⟨ks, hks⟩ := keys_of hxo
    have hle := hx.le
    simp only [maxLen] at hle
    refine WC.skip ?_
    refine thenQ_n (hK2 _ _ ?_)
    refine WC.seq (fun K5 hK5 => ?_)
    refine WC.region ?_
    refine WL.op rfl (opW.assignI rfl ?_)
    refine WL.nil ?_
    refine thenQ_n (hK5 _ _ ?_)
    refine WC.seq (fun K6 hK6 => ?_)
    refine WC.region ?_
    refine WL.op rfl (opW.moveI rfl ?_)
    refine WL.op rfl (opW.moveI rfl ?_)
    refine WL.op rfl (opW.moveI rfl ?_)
    refine WL.op rfl (opW.buildE (r := (⟨18446744073709551615, 18446744073709551615, 18446744073709551615⟩ : Limits)) (ps := Limits.parts (⟨18446744073709551615, 18446744073709551615, 18446744073709551615⟩ : Limits)) (Limits.enc_eq _) (by first | rfl | (simp only [kK, enc_vset, enc_vz, Limits.enc_eq, Limits.parts, Asked.enc_eq, Asked.parts, TrS.enc_eq, TrS.parts]; rfl)) (by (repeat' (first | exact trivial | refine And.intro ?_ ?_)) <;> first | rfl | exact Enc.size_eq _ | (simp; done)) ?_)
    refine WL.op rfl (opW.call (new_ok _ ⟨18446744073709551615, 18446744073709551615, 18446744073709551615⟩) rfl ?_)
    rintro _ w ⟨pa, da, rfl, hl1, hb1, hs1, ho1, hn1, hw⟩
    replace hS := hS.newE hw hn1
    refine WL.op rfl (opW.assignV (v := .pointer (some ⟨pa, 0, none⟩)) rfl ?_)
    refine WL.nil ?_
    refine thenQ_n (hK6 _ _ ?_)
    refine WC.seq (fun K7 hK7 => ?_)
    refine WC.region ?_
    refine WL.op rfl (opW.moveI rfl ?_)
    refine WL.op rfl (opW.moveI rfl ?_)
    refine WL.op rfl (opW.moveI rfl ?_)
    refine WL.op rfl (opW.buildE (r := (⟨18446744073709551615, 18446744073709551615, 18446744073709551615⟩ : Limits)) (ps := Limits.parts (⟨18446744073709551615, 18446744073709551615, 18446744073709551615⟩ : Limits)) (Limits.enc_eq _) (by first | rfl | (simp only [kK, enc_vset, enc_vz, Limits.enc_eq, Limits.parts, Asked.enc_eq, Asked.parts, TrS.enc_eq, TrS.parts]; rfl)) (by (repeat' (first | exact trivial | refine And.intro ?_ ?_)) <;> first | rfl | exact Enc.size_eq _ | (simp; done)) ?_)
    refine WL.op rfl (opW.call (new_ok _ ⟨18446744073709551615, 18446744073709551615, 18446744073709551615⟩) rfl ?_)
    rintro _ w ⟨pb, db, rfl, hl2, hb2, hs2, ho2, hn2, hw⟩
    replace hS := hS.newE hw hn2
    refine WL.op rfl (opW.assignV (v := .pointer (some ⟨pb, 0, none⟩)) rfl ?_)
    refine WL.nil ?_
    refine thenQ_n (hK7 _ _ ?_)
    refine WC.seq (fun K8 hK8 => ?_)
    refine WC.seq (fun K9 hK9 => ?_)
    refine WC.region ?_
    refine WL.op rfl (opW.assignI rfl ?_)
    refine WL.nil ?_
    refine thenQ_n (hK9 _ _ ?_)
    refine WC.block ?_
    refine WC.loop (fun q f w => ∃ (i : Nat) (da db : TrD), Fits [(0, v), (1, .int .u8 (a : Int)), (6, .pointer (some ⟨pa, 0, none⟩)), (7, .pointer (some ⟨pb, 0, none⟩)), (8, .int .i64 (i : Int))] f ∧ St w0 [trE pb db, trE pa da] w ∧ SumIs xs ks da (List.range i) ∧ SumIs xs ks db ((List.range i).map (sig xs.length a)) ∧ i ≤ xs.length ∧ q = xs.length - i) (xs.length) ?_ ?_
    ·
      exact ⟨0, da, db, ⟨rfl, rfl, rfl, rfl, rfl, trivial⟩, hS, ⟨hl1, by rw [hb1]; simp [totN], by rw [hs1]; simp [totN], fun k => by rw [ho1]; simp [totN]⟩, ⟨hl2, by rw [hb2]; simp [totN], by rw [hs2]; simp [totN], fun k => by rw [ho2]; simp [totN]⟩, Nat.zero_le _, rfl⟩
    ·
      rintro q f w ⟨i, da, db, hfit, hS, hA, hB, hk0, hm⟩
      refine WC.fits _ hfit (fun g => ?_)
      clear hfit
      refine WC.seq (fun K10 hK10 => ?_)
      refine WC.seq (fun K11 hK11 => ?_)
      refine WC.region ?_
      refine WL.op rfl (opW.moveI rfl ?_)
      refine WL.op rfl (opW.moveV (v := v) rfl ?_)
      refine WL.op rfl (opW.lenV rfl ((hx.bel hS.old)) ?_)
      refine WL.op rfl (opW.lss rfl rfl ?_)
      refine WL.nil ?_
      refine thenQ_n (hK11 _ _ ?_)
      refine WC.cond _ rfl (fun hc1 => ?_) (fun hc1 => ?_)
      ·
        have hr1 := hc1
        try simp only [decide_eq_true_eq, decide_eq_false_iff_not, Bool.and_eq_true, Bool.or_eq_true, Bool.and_eq_false_iff, Bool.or_eq_false_iff, Bool.not_eq_true', Bool.not_eq_false', Int.not_lt, Int.not_le] at hc1
        have hil : i < xs.length := by omega
        obtain ⟨hci, hsi, _⟩ := hxo xs[i] (List.getElem_mem hil)
        have hjl : (xs.length - 1 - i + a) % xs.length < xs.length := Nat.mod_lt _ (by omega)
        obtain ⟨hcj, hsj, _⟩ := hxo (xs[(xs.length - 1 - i + a) % xs.length]) (List.getElem_mem hjl)
        refine WC.skip ?_
        refine thenQ_n (hK10 _ _ ?_)
        refine WC.seq (fun K12 hK12 => ?_)
        refine WC.block ?_
        refine WC.seq (fun K13 hK13 => ?_)
        refine WC.region ?_
        refine WL.op rfl (opW.moveV (v := v) rfl ?_)
        refine WL.op rfl (opW.lenV rfl ((hx.bel hS.old)) ?_)
        refine WL.op rfl (opW.sub rfl rfl (wrap_i64 (by omega)) ?_)
        refine WL.op rfl (opW.moveI rfl ?_)
        refine WL.op rfl (opW.sub rfl rfl (wrap_i64 (by omega)) ?_)
        refine WL.op rfl (opW.moveI rfl ?_)
        refine WL.op rfl (opW.conv rfl (wrap_i64 (by omega)) ?_)
        refine WL.op rfl (opW.add rfl rfl ((wrap_i64 (by omega)).trans (by omega : _ = ((xs.length - 1 - i + a : Nat) : Int))) ?_)
        refine WL.op rfl (opW.moveV (v := v) rfl ?_)
        refine WL.op rfl (opW.lenV rfl ((hx.bel hS.old)) ?_)
        refine WL.op rfl (opW.rem rfl rfl (by omega) (tmod_nat _ _) ?_)
        refine WL.op rfl (opW.assignI rfl ?_)
        refine WL.nil ?_
        refine thenQ_n (hK13 _ _ ?_)
        refine WC.seq (fun K14 hK14 => ?_)
        refine WC.drawI 38 (.look 0 (.look 1 (.look 2 (.look 3 (.look 4 (.look 5 (.look 6 (.look 7 (.look 8 (.look 9 (.look 10 (.look 11 (.look 12 (.look 13 (.look 14 (.look 15 (.one 16 (.look 17 (.look 18 (.look 19 (.look 20 (.look 21 (.look 22 (.look 23 (.look 24 (.look 25 (.look 26 (.look 27 (.look 28 (.look 29 (.look 30 (.look 31 (.look 32 (.look 33 (.look 34 (.one 35 (.look 36 (.look 37 .nil)))))))))))))))))))))))))))))))))))))) (by kernel_rfl) (fun _ _ _ h => h) (fun w1 hw1 => ?_)
        replace hS := hS.bel hw1
        have hS1 := hS
        refine ⟨fun w => St w0 [] w, hS.sub (by repeat (first | with_reducible exact List.nil_sublist _ | with_reducible exact List.Sublist.refl _ | with_reducible refine List.Sublist.cons₂ _ ?_ | with_reducible refine List.Sublist.cons _ ?_)), ?_⟩
        refine ML.look rfl rfl rfl (fun w hw => (by have hS := hw; exact opW.moveV (v := .pointer (some ⟨pa, 0, none⟩)) rfl ⟨rfl, rfl⟩)) ?_
        refine ML.look rfl rfl rfl (fun w hw => (by have hS := hw; exact opW.moveV (v := v) rfl ⟨rfl, rfl⟩)) ?_
        refine ML.look rfl rfl rfl (fun w hw => (by have hS := hw; exact opW.moveI rfl ⟨rfl, rfl⟩)) ?_
        refine ML.look rfl rfl rfl (fun w hw => (by have hS := hw; exact opW.idxV rfl ((hx.bel hS.old)) rfl (by omega) ⟨rfl, rfl⟩)) ?_
        refine ML.look rfl rfl rfl (fun w hw => (by have hS := hw; exact opW.fieldAddr rfl ((hx.bel hS.old).isP hil) ⟨rfl, rfl⟩)) ?_
        refine ML.look rfl rfl rfl (fun w hw => (by have hS := hw; exact opW.loadV rfl (Ld.pt1 ((hx.bel hS.old).isPt hil) 0 (Asked.at_cost _)) ⟨rfl, rfl⟩)) ?_
        refine ML.look rfl rfl rfl (fun w hw => (by have hS := hw; exact opW.moveV (v := v) rfl ⟨rfl, rfl⟩)) ?_
        refine ML.look rfl rfl rfl (fun w hw => (by have hS := hw; exact opW.moveI rfl ⟨rfl, rfl⟩)) ?_
        refine ML.look rfl rfl rfl (fun w hw => (by have hS := hw; exact opW.idxV rfl ((hx.bel hS.old)) rfl (by omega) ⟨rfl, rfl⟩)) ?_
        refine ML.look rfl rfl rfl (fun w hw => (by have hS := hw; exact opW.fieldAddr rfl ((hx.bel hS.old).isP hil) ⟨rfl, rfl⟩)) ?_
        refine ML.look rfl rfl rfl (fun w hw => (by have hS := hw; exact opW.loadV rfl (Ld.pt1 ((hx.bel hS.old).isPt hil) 2 (Asked.at_keys _)) ⟨rfl, rfl⟩)) ?_
        refine ML.look rfl rfl rfl (fun w hw => (by have hS := hw; exact opW.moveV (v := v) rfl ⟨rfl, rfl⟩)) ?_
        refine ML.look rfl rfl rfl (fun w hw => (by have hS := hw; exact opW.moveI rfl ⟨rfl, rfl⟩)) ?_
        refine ML.look rfl rfl rfl (fun w hw => (by have hS := hw; exact opW.idxV rfl ((hx.bel hS.old)) rfl (by omega) ⟨rfl, rfl⟩)) ?_
        refine ML.look rfl rfl rfl (fun w hw => (by have hS := hw; exact opW.fieldAddr rfl ((hx.bel hS.old).isP hil) ⟨rfl, rfl⟩)) ?_
        refine ML.look rfl rfl rfl (fun w hw => (by have hS := hw; exact opW.loadV rfl (Ld.pt1 ((hx.bel hS.old).isPt hil) 1 (Asked.at_space _)) ⟨rfl, rfl⟩)) ?_
        refine ML.one rfl rfl rfl (opW.call (add_ok _ _ [trE pb db] pa da xs[i].cost (ks i) xs[i].space xs[i].keys.v (hS.pick (by first | exact .here | exact .there (.here) | exact .there (.there (.here)) | exact .there (.there (.there (.here))) | exact .there (.there (.there (.there (.here)))) | exact .there (.there (.there (.there (.there (.here))))) | exact .there (.there (.there (.there (.there (.there (.here)))))) | exact .there (.there (.there (.there (.there (.there (.there (.here))))))) | exact .there (.there (.there (.there (.there (.there (.there (.there (.here)))))))))) hA.ok (fun w h => (hks i hil).bel h.old)) rfl ?_)
        rintro _ w ⟨da2, rfl, haA, _, _, hS⟩
        have hA2 := hA.step hil hci hsi (haA (hA.would _ _ _))
        rw [hA.would]
        refine ⟨hS.sub (by repeat (first | with_reducible exact List.nil_sublist _ | with_reducible exact List.Sublist.refl _ | with_reducible refine List.Sublist.cons₂ _ ?_ | with_reducible refine List.Sublist.cons _ ?_)), ?_⟩
        refine ML.look rfl rfl rfl (fun w hw => (by have hS := hw; exact opW.boolF (by decide) (opW.neq rfl rfl ⟨rfl, rfl⟩) ⟨rfl, rfl⟩)) ?_
        refine ML.look rfl rfl rfl (fun w hw => (by have hS := hw; exact opW.moveB rfl ⟨rfl, rfl⟩)) ?_
        refine ML.lookT 65 rfl rfl rfl rfl rfl rfl (fun w hw => (by have hS := hw; exact opW.moveV (v := .pointer (some ⟨pb, 0, none⟩)) rfl ⟨rfl, rfl⟩)) ?_
        refine ML.lookT 65 rfl rfl rfl rfl rfl rfl (fun w hw => (by have hS := hw; exact opW.moveV (v := v) rfl ⟨rfl, rfl⟩)) ?_
        refine ML.lookT 65 rfl rfl rfl rfl rfl rfl (fun w hw => (by have hS := hw; exact opW.moveI rfl ⟨rfl, rfl⟩)) ?_
        refine ML.lookT 65 rfl rfl rfl rfl rfl rfl (fun w hw => (by have hS := hw; exact opW.idxV rfl ((hx.bel hS.old)) rfl (by omega) ⟨rfl, rfl⟩)) ?_
        refine ML.lookT 65 rfl rfl rfl rfl rfl rfl (fun w hw => (by have hS := hw; exact opW.fieldAddr rfl ((hx.bel hS.old).isP hjl) ⟨rfl, rfl⟩)) ?_
        refine ML.lookT 65 rfl rfl rfl rfl rfl rfl (fun w hw => (by have hS := hw; exact opW.loadV rfl (Ld.pt1 ((hx.bel hS.old).isPt hjl) 0 (Asked.at_cost _)) ⟨rfl, rfl⟩)) ?_
        refine ML.lookT 65 rfl rfl rfl rfl rfl rfl (fun w hw => (by have hS := hw; exact opW.moveV (v := v) rfl ⟨rfl, rfl⟩)) ?_
        refine ML.lookT 65 rfl rfl rfl rfl rfl rfl (fun w hw => (by have hS := hw; exact opW.moveI rfl ⟨rfl, rfl⟩)) ?_
        refine ML.lookT 65 rfl rfl rfl rfl rfl rfl (fun w hw => (by have hS := hw; exact opW.idxV rfl ((hx.bel hS.old)) rfl (by omega) ⟨rfl, rfl⟩)) ?_
        refine ML.lookT 65 rfl rfl rfl rfl rfl rfl (fun w hw => (by have hS := hw; exact opW.fieldAddr rfl ((hx.bel hS.old).isP hjl) ⟨rfl, rfl⟩)) ?_
        refine ML.lookT 65 rfl rfl rfl rfl rfl rfl (fun w hw => (by have hS := hw; exact opW.loadV rfl (Ld.pt1 ((hx.bel hS.old).isPt hjl) 2 (Asked.at_keys _)) ⟨rfl, rfl⟩)) ?_
        refine ML.lookT 65 rfl rfl rfl rfl rfl rfl (fun w hw => (by have hS := hw; exact opW.moveV (v := v) rfl ⟨rfl, rfl⟩)) ?_
        refine ML.lookT 65 rfl rfl rfl rfl rfl rfl (fun w hw => (by have hS := hw; exact opW.moveI rfl ⟨rfl, rfl⟩)) ?_
        refine ML.lookT 65 rfl rfl rfl rfl rfl rfl (fun w hw => (by have hS := hw; exact opW.idxV rfl ((hx.bel hS.old)) rfl (by omega) ⟨rfl, rfl⟩)) ?_
        refine ML.lookT 65 rfl rfl rfl rfl rfl rfl (fun w hw => (by have hS := hw; exact opW.fieldAddr rfl ((hx.bel hS.old).isP hjl) ⟨rfl, rfl⟩)) ?_
        refine ML.lookT 65 rfl rfl rfl rfl rfl rfl (fun w hw => (by have hS := hw; exact opW.loadV rfl (Ld.pt1 ((hx.bel hS.old).isPt hjl) 1 (Asked.at_space _)) ⟨rfl, rfl⟩)) ?_
        refine ML.oneT 65 rfl rfl rfl rfl rfl rfl (opW.call (add_ok _ _ [trE pa da2] pb db (xs[(xs.length - 1 - i + a) % xs.length]).cost (ks ((xs.length - 1 - i + a) % xs.length)) (xs[(xs.length - 1 - i + a) % xs.length]).space (xs[(xs.length - 1 - i + a) % xs.length]).keys.v (hS.pick (by first | exact .here | exact .there (.here) | exact .there (.there (.here)) | exact .there (.there (.there (.here))) | exact .there (.there (.there (.there (.here)))) | exact .there (.there (.there (.there (.there (.here))))) | exact .there (.there (.there (.there (.there (.there (.here)))))) | exact .there (.there (.there (.there (.there (.there (.there (.here))))))) | exact .there (.there (.there (.there (.there (.there (.there (.there (.here)))))))))) hB.ok (fun w h => (hks _ hjl).bel h.old)) rfl ?_)
        rintro _ w ⟨db2, rfl, haB, _, _, hS⟩
        have hB2 : SumIs xs ks db2 ((List.range i).map (sig xs.length a) ++ [sig xs.length a i]) := hB.step hjl hcj hsj (haB (hB.would _ _ _))
        rw [hB.would]
        refine ⟨hS.sub (by repeat (first | with_reducible exact List.nil_sublist _ | with_reducible exact List.Sublist.refl _ | with_reducible refine List.Sublist.cons₂ _ ?_ | with_reducible refine List.Sublist.cons _ ?_)), ?_⟩
        refine ML.lookT 65 rfl rfl rfl rfl rfl rfl (fun w hw => (by have hS := hw; exact opW.boolF (by decide) (opW.neq rfl rfl ⟨rfl, rfl⟩) ⟨rfl, rfl⟩)) ?_
        refine ML.look rfl rfl rfl (fun w hw => (by have hS := hw; exact opW.pickT rfl rfl ⟨rfl, rfl⟩)) ?_
        refine ML.nil ?_
        refine thenQ_n (hK14 _ _ ?_)
        refine WC.cond _ rfl (fun hc2 => ?_) (fun hc2 => ?_)
        ·
          have hr2 := hc2
          try simp only [decide_eq_true_eq, decide_eq_false_iff_not, Bool.and_eq_true, Bool.or_eq_true, Bool.and_eq_false_iff, Bool.or_eq_false_iff, Bool.not_eq_true', Bool.not_eq_false', Int.not_lt, Int.not_le] at hc2
          exact absurd hr2 (by decide)
        ·
          have hr2 := hc2
          try simp only [decide_eq_true_eq, decide_eq_false_iff_not, Bool.and_eq_true, Bool.or_eq_true, Bool.and_eq_false_iff, Bool.or_eq_false_iff, Bool.not_eq_true', Bool.not_eq_false', Int.not_lt, Int.not_le] at hc2
          refine WC.skip ?_
          refine blockQ_n ?_
          refine thenQ_n (hK12 _ _ ?_)
          refine WC.region ?_
          refine WL.op rfl (opW.moveI rfl ?_)
          refine WL.op rfl (opW.add rfl rfl (wrap_i64 (by omega)) ?_)
          refine WL.op rfl (opW.assignI rfl ?_)
          refine WL.nil ?_
          refine thenQ_n ?_
          rw [← List.range_succ] at hA2
          rw [show (List.range i).map (sig xs.length a) ++ [sig xs.length a i] = (List.range (i + 1)).map (sig xs.length a) from by rw [List.range_succ, List.map_append]; rfl] at hB2
          exact ⟨xs.length - (i + 1), by omega, i + 1, da2, db2, ⟨rfl, rfl, rfl, rfl, congrArg (Value.int .i64) (by omega), trivial⟩, hS, hA2, hB2, by omega, rfl⟩
      ·
        have hr1 := hc1
        try simp only [decide_eq_true_eq, decide_eq_false_iff_not, Bool.and_eq_true, Bool.or_eq_true, Bool.and_eq_false_iff, Bool.or_eq_false_iff, Bool.not_eq_true', Bool.not_eq_false', Int.not_lt, Int.not_le] at hc1
        have hkk : i = xs.length := by omega
        subst hkk
        obtain ⟨hbl, hsp, hof⟩ := hA.same hB (sig_perm _ _)
        refine WC.exit ?_
        refine thenQ_e ?_
        refine thenQ_e ?_
        refine blockQ_hit ?_
        refine thenQ_n (hK8 _ _ ?_)
        refine WC.seq (fun K15 hK15 => ?_)
        refine WC.seq (fun K16 hK16 => ?_)
        refine WC.region ?_
        refine WL.op rfl (opW.assignI rfl ?_)
        refine WL.nil ?_
        refine thenQ_n (hK16 _ _ ?_)
        refine WC.block ?_
        refine WC.loop (fun q f w => ∃ m : Nat, Fits [(0, v), (6, .pointer (some ⟨pa, 0, none⟩)), (7, .pointer (some ⟨pb, 0, none⟩)), (10, .int .i64 (m : Int))] f ∧ St w0 [trE pb db, trE pa da] w ∧ m ≤ xs.length ∧ q = xs.length - m) (xs.length) ?_ ?_
        ·
          exact ⟨0, ⟨rfl, rfl, rfl, rfl, trivial⟩, hS, Nat.zero_le _, rfl⟩
        ·
          rintro q f w ⟨m, hfit, hS, hm0, hm⟩
          refine WC.fits _ hfit (fun g => ?_)
          clear hfit
          refine WC.seq (fun K17 hK17 => ?_)
          refine WC.seq (fun K18 hK18 => ?_)
          refine WC.region ?_
          refine WL.op rfl (opW.moveI rfl ?_)
          refine WL.op rfl (opW.moveV (v := v) rfl ?_)
          refine WL.op rfl (opW.lenV rfl ((hx.bel hS.old)) ?_)
          refine WL.op rfl (opW.lss rfl rfl ?_)
          refine WL.nil ?_
          refine thenQ_n (hK18 _ _ ?_)
          refine WC.cond _ rfl (fun hc3 => ?_) (fun hc3 => ?_)
          ·
            have hr3 := hc3
            try simp only [decide_eq_true_eq, decide_eq_false_iff_not, Bool.and_eq_true, Bool.or_eq_true, Bool.and_eq_false_iff, Bool.or_eq_false_iff, Bool.not_eq_true', Bool.not_eq_false', Int.not_lt, Int.not_le] at hc3
            have hml : m < xs.length := by omega
            have hkm := hks m hml
            have hkle := hkm.le
            simp only [maxLen] at hkle
            refine WC.skip ?_
            refine thenQ_n (hK17 _ _ ?_)
            refine WC.seq (fun K19 hK19 => ?_)
            refine WC.block ?_
            refine WC.seq (fun K20 hK20 => ?_)
            refine WC.region ?_
            refine WL.op rfl (opW.assignI rfl ?_)
            refine WL.nil ?_
            refine thenQ_n (hK20 _ _ ?_)
            refine WC.block ?_
            refine WC.loop (fun q2 f w => ∃ k : Nat, Fits [(0, v), (6, .pointer (some ⟨pa, 0, none⟩)), (7, .pointer (some ⟨pb, 0, none⟩)), (10, .int .i64 (m : Int)), (11, .int .i64 (k : Int))] f ∧ St w0 [trE pb db, trE pa da] w ∧ k ≤ (ks m).length ∧ q2 = (ks m).length - k) ((ks m).length) ?_ ?_
            ·
              exact ⟨0, ⟨rfl, rfl, rfl, rfl, rfl, trivial⟩, hS, Nat.zero_le _, rfl⟩
            ·
              rintro q2 f w ⟨k, hfit, hS, hk0, hm2⟩
              refine WC.fits _ hfit (fun g => ?_)
              clear hfit
              refine WC.seq (fun K21 hK21 => ?_)
              refine WC.seq (fun K22 hK22 => ?_)
              refine WC.region ?_
              refine WL.op rfl (opW.moveI rfl ?_)
              refine WL.op rfl (opW.moveV (v := v) rfl ?_)
              refine WL.op rfl (opW.moveI rfl ?_)
              refine WL.op rfl (opW.idxV rfl ((hx.bel hS.old)) rfl (by omega) ?_)
              refine WL.op rfl (opW.fieldAddr rfl ((hx.bel hS.old).isP hml) ?_)
              refine WL.op rfl (opW.loadV rfl (Ld.pt1 ((hx.bel hS.old).isPt hml) 2 (Asked.at_keys _)) ?_)
              refine WL.op rfl (opW.lenV rfl ((hkm.bel hS.old)) ?_)
              refine WL.op rfl (opW.lss rfl rfl ?_)
              refine WL.nil ?_
              refine thenQ_n (hK22 _ _ ?_)
              refine WC.cond _ rfl (fun hc4 => ?_) (fun hc4 => ?_)
              ·
                have hr4 := hc4
                try simp only [decide_eq_true_eq, decide_eq_false_iff_not, Bool.and_eq_true, Bool.or_eq_true, Bool.and_eq_false_iff, Bool.or_eq_false_iff, Bool.not_eq_true', Bool.not_eq_false', Int.not_lt, Int.not_le] at hc4
                have hkl : k < (ks m).length := by omega
                refine WC.skip ?_
                refine thenQ_n (hK21 _ _ ?_)
                refine WC.seq (fun K23 hK23 => ?_)
                refine WC.block ?_
                refine WC.seq (fun K24 hK24 => ?_)
                refine WC.draw 21 (.look 0 (.look 1 (.look 2 (.look 3 (.look 4 (.look 5 (.look 6 (.look 7 (.look 8 (.look 10 (.look 11 (.look 12 (.look 13 (.look 14 (.look 15 (.look 16 (.look 17 (.look 18 (.one 9 (.one 19 (.look 20 .nil))))))))))))))))))))) (by kernel_rfl) (fun _ _ _ h => h) (fun w1 hw1 => ?_)
                replace hS := hS.bel hw1
                have hS1 := hS
                have hT := St.start w1
                refine ML.look rfl rfl rfl (fun w hw => (by have hS := hS1.bel hw; exact opW.moveV (v := .pointer (some ⟨pa, 0, none⟩)) rfl ⟨rfl, rfl⟩)) ?_
                refine ML.look rfl rfl rfl (fun w hw => (by have hS := hS1.bel hw; exact opW.moveV (v := v) rfl ⟨rfl, rfl⟩)) ?_
                refine ML.look rfl rfl rfl (fun w hw => (by have hS := hS1.bel hw; exact opW.moveI rfl ⟨rfl, rfl⟩)) ?_
                refine ML.look rfl rfl rfl (fun w hw => (by have hS := hS1.bel hw; exact opW.idxV rfl ((hx.bel hS.old)) rfl (by omega) ⟨rfl, rfl⟩)) ?_
                refine ML.look rfl rfl rfl (fun w hw => (by have hS := hS1.bel hw; exact opW.fieldAddr rfl ((hx.bel hS.old).isP hml) ⟨rfl, rfl⟩)) ?_
                refine ML.look rfl rfl rfl (fun w hw => (by have hS := hS1.bel hw; exact opW.loadV rfl (Ld.pt1 ((hx.bel hS.old).isPt hml) 2 (Asked.at_keys _)) ⟨rfl, rfl⟩)) ?_
                refine ML.look rfl rfl rfl (fun w hw => (by have hS := hS1.bel hw; exact opW.moveI rfl ⟨rfl, rfl⟩)) ?_
                refine ML.look rfl rfl rfl (fun w hw => (by have hS := hS1.bel hw; exact opW.idxV rfl ((hkm.bel hS.old)) rfl (by omega) ⟨rfl, rfl⟩)) ?_
                refine ML.look rfl rfl rfl (fun w hw => (by have hS := hS1.bel hw; exact opW.loadV rfl (((hkm.bel hS.old).isPt hkl).ldA (Enc.size_eq (ks m)[k])) ⟨rfl, rfl⟩)) ?_
                refine ML.look rfl rfl rfl (fun w hw => (by have hS := hS1.bel hw; exact opW.moveV (v := .pointer (some ⟨pb, 0, none⟩)) rfl ⟨rfl, rfl⟩)) ?_
                refine ML.look rfl rfl rfl (fun w hw => (by have hS := hS1.bel hw; exact opW.moveV (v := v) rfl ⟨rfl, rfl⟩)) ?_
                refine ML.look rfl rfl rfl (fun w hw => (by have hS := hS1.bel hw; exact opW.moveI rfl ⟨rfl, rfl⟩)) ?_
                refine ML.look rfl rfl rfl (fun w hw => (by have hS := hS1.bel hw; exact opW.idxV rfl ((hx.bel hS.old)) rfl (by omega) ⟨rfl, rfl⟩)) ?_
                refine ML.look rfl rfl rfl (fun w hw => (by have hS := hS1.bel hw; exact opW.fieldAddr rfl ((hx.bel hS.old).isP hml) ⟨rfl, rfl⟩)) ?_
                refine ML.look rfl rfl rfl (fun w hw => (by have hS := hS1.bel hw; exact opW.loadV rfl (Ld.pt1 ((hx.bel hS.old).isPt hml) 2 (Asked.at_keys _)) ⟨rfl, rfl⟩)) ?_
                refine ML.look rfl rfl rfl (fun w hw => (by have hS := hS1.bel hw; exact opW.moveI rfl ⟨rfl, rfl⟩)) ?_
                refine ML.look rfl rfl rfl (fun w hw => (by have hS := hS1.bel hw; exact opW.idxV rfl ((hkm.bel hS.old)) rfl (by omega) ⟨rfl, rfl⟩)) ?_
                refine ML.look rfl rfl rfl (fun w hw => (by have hS := hS1.bel hw; exact opW.loadV rfl (((hkm.bel hS.old).isPt hkl).ldA (Enc.size_eq (ks m)[k])) ⟨rfl, rfl⟩)) ?_
                refine ML.one rfl rfl rfl (opW.call (ofk_ok _ pa da (ks m)[k] (hS.trAt (by first | exact .here | exact .there (.here) | exact .there (.there (.here)) | exact .there (.there (.there (.here))) | exact .there (.there (.there (.there (.here)))) | exact .there (.there (.there (.there (.there (.here))))) | exact .there (.there (.there (.there (.there (.there (.here)))))) | exact .there (.there (.there (.there (.there (.there (.there (.here))))))) | exact .there (.there (.there (.there (.there (.there (.there (.there (.here))))))))))) rfl ?_)
                rintro _ w ⟨rfl, hw⟩; replace hT := hT.bel hw
                refine ⟨hT.old, ?_⟩
                have hS := hS1.merge hT
                try simp only [List.cons_append, List.nil_append] at hS
                refine ML.one rfl rfl rfl (opW.call (ofk_ok _ pb db (ks m)[k] (hS.trAt (by first | exact .here | exact .there (.here) | exact .there (.there (.here)) | exact .there (.there (.there (.here))) | exact .there (.there (.there (.there (.here)))) | exact .there (.there (.there (.there (.there (.here))))) | exact .there (.there (.there (.there (.there (.there (.here)))))) | exact .there (.there (.there (.there (.there (.there (.there (.here))))))) | exact .there (.there (.there (.there (.there (.there (.there (.there (.here))))))))))) rfl ?_)
                rintro _ w ⟨rfl, hw⟩; replace hT := hT.bel hw
                refine ⟨hT.old, ?_⟩
                have hS := hS1.merge hT
                try simp only [List.cons_append, List.nil_append] at hS
                refine ML.look rfl rfl rfl (fun w hw => (by have hS := hS1.bel hw; exact opW.boolF (by rw [hof]; simp) (opW.neq rfl rfl ⟨rfl, rfl⟩) ⟨rfl, rfl⟩)) ?_
                refine ML.nil ?_
                refine thenQ_n (hK24 _ _ ?_)
                refine WC.cond _ rfl (fun hc5 => ?_) (fun hc5 => ?_)
                ·
                  have hr5 := hc5
                  try simp only [decide_eq_true_eq, decide_eq_false_iff_not, Bool.and_eq_true, Bool.or_eq_true, Bool.and_eq_false_iff, Bool.or_eq_false_iff, Bool.not_eq_true', Bool.not_eq_false', Int.not_lt, Int.not_le] at hc5
                  exact absurd hr5 (by decide)
                ·
                  have hr5 := hc5
                  try simp only [decide_eq_true_eq, decide_eq_false_iff_not, Bool.and_eq_true, Bool.or_eq_true, Bool.and_eq_false_iff, Bool.or_eq_false_iff, Bool.not_eq_true', Bool.not_eq_false', Int.not_lt, Int.not_le] at hc5
                  refine WC.skip ?_
                  refine blockQ_n ?_
                  refine thenQ_n (hK23 _ _ ?_)
                  refine WC.region ?_
                  refine WL.op rfl (opW.moveI rfl ?_)
                  refine WL.op rfl (opW.add rfl rfl (wrap_i64 (by omega)) ?_)
                  refine WL.op rfl (opW.assignI rfl ?_)
                  refine WL.nil ?_
                  refine thenQ_n ?_
                  exact ⟨(ks m).length - (k + 1), by omega, k + 1, ⟨rfl, rfl, rfl, rfl, congrArg (Value.int .i64) (by omega), trivial⟩, hS, by omega, rfl⟩
              ·
                have hr4 := hc4
                try simp only [decide_eq_true_eq, decide_eq_false_iff_not, Bool.and_eq_true, Bool.or_eq_true, Bool.and_eq_false_iff, Bool.or_eq_false_iff, Bool.not_eq_true', Bool.not_eq_false', Int.not_lt, Int.not_le] at hc4
                refine WC.exit ?_
                refine thenQ_e ?_
                refine thenQ_e ?_
                refine blockQ_hit ?_
                refine blockQ_n ?_
                refine thenQ_n (hK19 _ _ ?_)
                refine WC.region ?_
                refine WL.op rfl (opW.moveI rfl ?_)
                refine WL.op rfl (opW.add rfl rfl (wrap_i64 (by omega)) ?_)
                refine WL.op rfl (opW.assignI rfl ?_)
                refine WL.nil ?_
                refine thenQ_n ?_
                exact ⟨xs.length - (m + 1), by omega, m + 1, ⟨rfl, rfl, rfl, congrArg (Value.int .i64) (by omega), trivial⟩, hS, by omega, rfl⟩
          ·
            have hr3 := hc3
            try simp only [decide_eq_true_eq, decide_eq_false_iff_not, Bool.and_eq_true, Bool.or_eq_true, Bool.and_eq_false_iff, Bool.or_eq_false_iff, Bool.not_eq_true', Bool.not_eq_false', Int.not_lt, Int.not_le] at hc3
            refine WC.exit ?_
            refine thenQ_e ?_
            refine thenQ_e ?_
            refine blockQ_hit ?_
            refine thenQ_n (hK15 _ _ ?_)
            refine WC.seq (fun K25 hK25 => ?_)
            refine WC.region ?_
            refine WL.op rfl (opW.moveV (v := .pointer (some ⟨pa, 0, none⟩)) rfl ?_)
            refine WL.op rfl (opW.call (block_ok _ pa da (hS.trAt (by first | exact .here | exact .there (.here) | exact .there (.there (.here)) | exact .there (.there (.there (.here))) | exact .there (.there (.there (.there (.here)))) | exact .there (.there (.there (.there (.there (.here))))) | exact .there (.there (.there (.there (.there (.there (.here)))))) | exact .there (.there (.there (.there (.there (.there (.there (.here))))))) | exact .there (.there (.there (.there (.there (.there (.there (.there (.here))))))))))) rfl ?_)
            rintro _ w ⟨rfl, hw⟩; replace hS := hS.bel hw
            refine WL.op rfl (opW.moveV (v := .pointer (some ⟨pb, 0, none⟩)) rfl ?_)
            refine WL.op rfl (opW.call (block_ok _ pb db (hS.trAt (by first | exact .here | exact .there (.here) | exact .there (.there (.here)) | exact .there (.there (.there (.here))) | exact .there (.there (.there (.there (.here)))) | exact .there (.there (.there (.there (.there (.here))))) | exact .there (.there (.there (.there (.there (.there (.here)))))) | exact .there (.there (.there (.there (.there (.there (.there (.here))))))) | exact .there (.there (.there (.there (.there (.there (.there (.there (.here))))))))))) rfl ?_)
            rintro _ w ⟨rfl, hw⟩; replace hS := hS.bel hw
            refine WL.op rfl (opW.boolT (by rw [hbl]; simp) (opW.eql rfl rfl ⟨rfl, rfl⟩) ?_)
            refine WL.op rfl (opW.moveB rfl ?_)
            refine WL.gT 127 rfl rfl rfl (WL.op rfl (opW.moveV (v := .pointer (some ⟨pa, 0, none⟩)) rfl ?_))
            refine WL.gT 127 rfl rfl rfl (WL.op rfl (opW.call (space_ok _ pa da (hS.trAt (by first | exact .here | exact .there (.here) | exact .there (.there (.here)) | exact .there (.there (.there (.here))) | exact .there (.there (.there (.there (.here)))) | exact .there (.there (.there (.there (.there (.here))))) | exact .there (.there (.there (.there (.there (.there (.here)))))) | exact .there (.there (.there (.there (.there (.there (.there (.here))))))) | exact .there (.there (.there (.there (.there (.there (.there (.there (.here))))))))))) rfl ?_))
            rintro _ w ⟨rfl, hw⟩; replace hS := hS.bel hw
            refine WL.gT 127 rfl rfl rfl (WL.op rfl (opW.moveV (v := .pointer (some ⟨pb, 0, none⟩)) rfl ?_))
            refine WL.gT 127 rfl rfl rfl (WL.op rfl (opW.call (space_ok _ pb db (hS.trAt (by first | exact .here | exact .there (.here) | exact .there (.there (.here)) | exact .there (.there (.there (.here))) | exact .there (.there (.there (.there (.here)))) | exact .there (.there (.there (.there (.there (.here))))) | exact .there (.there (.there (.there (.there (.there (.here)))))) | exact .there (.there (.there (.there (.there (.there (.there (.here))))))) | exact .there (.there (.there (.there (.there (.there (.there (.there (.here))))))))))) rfl ?_))
            rintro _ w ⟨rfl, hw⟩; replace hS := hS.bel hw
            refine WL.gT 127 rfl rfl rfl (WL.op rfl (opW.boolT (by rw [hsp]; simp) (opW.eql rfl rfl ⟨rfl, rfl⟩) ?_))
            refine WL.op rfl (opW.pickT rfl rfl ?_)
            refine WL.op rfl (opW.moveB rfl ?_)
            refine WL.gT 134 rfl rfl rfl (WL.op rfl (opW.call (lives20 _) rfl ?_))
            rintro _ w ⟨rfl, hw⟩; replace hS := hS.bel hw
            refine WL.op rfl (opW.pickT rfl rfl ?_)
            refine WL.op rfl (opW.assignB rfl ?_)
            refine WL.nil ?_
            refine thenQ_n (hK25 _ _ ?_)
            refine WC.ret ?_
            refine bodyQ_ret (.tmpB rfl .nil) ?_
            exact ⟨rfl, hS.old⟩

end Go.Fer
