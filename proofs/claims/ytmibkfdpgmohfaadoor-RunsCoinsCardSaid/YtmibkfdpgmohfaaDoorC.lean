/- taken -/
import Derived.Test.YtmibkfdpgmohfaaDoorB
set_option linter.all false
namespace Go.Fer
open Go Go.Proofs Go.RowKit

/-- what is wrong with who stands at a place -/
def roleErr (t : Nat) (r : List Role) (i : Nat) (c : UInt8) : Int :=
  let ρ := r.getD c.toNat ⟨vz 32, false, false⟩
  if (!ρ.signs && !(decide ((t : Int) = 2) && decide ((0 : Int) < (i : Int)))) = true then 14 else if (!ρ.writes) = true then 15 else 0
def roleErrs (t : Nat) (r : List Role) : List UInt8 → Nat → Int
  | [], _ => 0
  | c :: l, i => if roleErr t r i c ≠ 0 then roleErr t r i c else roleErrs t r l (i + 1)
def lacks (n : Nat) (ats : List UInt8) : Bool := ats.any fun c => decide ((n : Int) ≤ (c.toNat : Int))
def takF (t : Nat) (r : List Role) (ats : List UInt8) : Int :=
  if (decide ((ats.length : Int) < (need t : Int)) || lacks r.length ats) = true then 8 else roleErrs t r (ats.take (need t)) 0
theorem roleErrs_step {t : Nat} {r : List Role} {l : List UInt8} {k : Nat} (hk : k < l.length) : roleErrs t r (l.drop k) k = if roleErr t r k l[k] ≠ 0 then roleErr t r k l[k] else roleErrs t r (l.drop (k + 1)) (k + 1) := by
  rw [List.drop_eq_getElem_cons hk]; rfl
theorem roleErr_of {t : Nat} {r : List Role} {i : Nat} {c : UInt8} (h : c.toNat < r.length) : roleErr t r i c = if (!r[c.toNat].signs && !(decide ((t : Int) = 2) && decide ((0 : Int) < (i : Int)))) = true then 14 else if (!r[c.toNat].writes) = true then 15 else 0 := by
  unfold roleErr
  rw [show r.getD c.toNat ⟨vz 32, false, false⟩ = r[c.toNat] from by simp [List.getD_eq_getElem?_getD, h]]
theorem roleErrs_hit {t : Nat} {r : List Role} {l : List UInt8} {k : Nat} {e : Int} (hk : k < l.length) (h : roleErr t r k l[k] = e) (he : e ≠ 0) : roleErrs t r (l.drop k) k = e := by
  rw [roleErrs_step hk, h, if_pos he]
theorem roleErrs_go {t : Nat} {r : List Role} {l : List UInt8} {k : Nat} (hk : k < l.length) (h : roleErr t r k l[k] = 0) : roleErrs t r (l.drop k) k = roleErrs t r (l.drop (k + 1)) (k + 1) := by
  rw [roleErrs_step hk, h, if_neg (by decide)]
theorem roleErr_s {t : Nat} {r : List Role} {i : Nat} {c : UInt8} (h : c.toNat < r.length) (hs : (!r[c.toNat].signs && !(decide ((t : Int) = 2) && decide ((0 : Int) < (i : Int)))) = true) : roleErr t r i c = 14 := by
  rw [roleErr_of h, if_pos hs]
theorem roleErr_w {t : Nat} {r : List Role} {i : Nat} {c : UInt8} (h : c.toNat < r.length) (hs : (!r[c.toNat].signs && !(decide ((t : Int) = 2) && decide ((0 : Int) < (i : Int)))) = false) (hw : (!r[c.toNat].writes) = true) : roleErr t r i c = 15 := by
  rw [roleErr_of h, if_neg (by rw [hs]; decide), if_pos hw]
theorem roleErr_0 {t : Nat} {r : List Role} {i : Nat} {c : UInt8} (h : c.toNat < r.length) (hs : (!r[c.toNat].signs && !(decide ((t : Int) = 2) && decide ((0 : Int) < (i : Int)))) = false) (hw : (!r[c.toNat].writes) = false) : roleErr t r i c = 0 := by
  rw [roleErr_of h, if_neg (by rw [hs]; decide), if_neg (by rw [hw]; decide)]
theorem lacks_no {n : Nat} {ats : List UInt8} (h : lacks n ats = false) {c : UInt8} (hc : c ∈ ats) : c.toNat < n := by
  unfold lacks at h
  have := List.any_eq_false.1 h c hc
  simp only [decide_eq_true_eq] at this
  omega
theorem need_12 (t : Nat) : 1 ≤ need t ∧ need t ≤ 2 := by unfold need; split <;> omega

theorem need_ok (w0 : World) (x : Ask) : Ret Tryd.prog 43 #[.agg (Enc.enc x)] w0 (fun u w' => u = .int .i64 (need x.tag : Int) ∧ Bel w0 w') := by
  refine Ret.enter (args := [.agg (Enc.enc x)]) Tryd.func43 rfl Tryd.ntmps43 Tryd.results43 rfl ?_
  have hS := St.start w0
  refine WC.seq (fun K1 hK1 => ?_)
  refine WC.region ?_
  refine WL.op rfl (opW.boxA hS rfl ?_)
  intro b1 w _ hS
  refine WL.op rfl (opW.assignI rfl ?_)
  refine WL.nil ?_
  refine thenQ_n (hK1 _ _ ?_)
  refine WC.seq (fun K2 hK2 => ?_)
  refine WC.seq (fun K3 hK3 => ?_)
  refine WC.region ?_
  refine WL.op rfl (opW.fieldAddrB rfl ?_)
  refine WL.op rfl (opW.loadV rfl (hS.ld1 (by first | exact .h0 | exact .h1 | exact .h2 | exact .h3 | exact .h4 | exact .h5 | exact .h6 | exact .h7 | exact .h8 | exact .h9 | exact .h10 | exact .h11 | exact .h12 | exact .h13 | exact .h14) (Ask.at_tag _)) ?_)
  refine WL.op rfl (opW.eql rfl rfl ?_)
  refine WL.op rfl (opW.moveB rfl ?_)
  refine WL.gd _ 6 _ rfl rfl rfl rfl (fun hg7 => opW.fieldAddrB rfl ⟨rfl, Bel.refl _⟩) (fun w hw => ?_)
  replace hS := hS.bel hw
  refine WL.gd _ 6 _ rfl rfl rfl rfl (fun hg8 => opW.loadV (by first | exact gv_of rfl hg8 | rfl) (hS.ld1 (by first | exact .h0 | exact .h1 | exact .h2 | exact .h3 | exact .h4 | exact .h5 | exact .h6 | exact .h7 | exact .h8 | exact .h9 | exact .h10 | exact .h11 | exact .h12 | exact .h13 | exact .h14) (Ask.at_tag _)) ⟨rfl, Bel.refl _⟩) (fun w hw => ?_)
  replace hS := hS.bel hw
  refine WL.gd _ 6 _ rfl rfl rfl rfl (fun hg9 => opW.eql (by first | exact gv_of rfl hg9 | rfl) rfl ⟨rfl, Bel.refl _⟩) (fun w hw => ?_)
  replace hS := hS.bel hw
  refine WL.op rfl (opW.pickOr rfl rfl (by first | rfl) ?_)
  refine WL.nil ?_
  refine thenQ_n (hK3 _ _ ?_)
  refine WC.cond _ rfl (fun hc0 => ?_) (fun hc0 => ?_)
  ·
    have hr0 := hc0
    try simp only [decide_eq_true_eq, decide_eq_false_iff_not, Bool.and_eq_true, Bool.or_eq_true, Bool.and_eq_false_iff, Bool.or_eq_false_iff, Bool.not_eq_true', Bool.not_eq_false', Int.not_lt, Int.not_le] at hc0
    refine WC.seq (fun K4 hK4 => ?_)
    refine WC.region ?_
    refine WL.op rfl (opW.assignI rfl ?_)
    refine WL.nil ?_
    refine thenQ_n (hK4 _ _ ?_)
    refine WC.ret ?_
    refine thenQ_r ?_
    refine bodyQ_ret (.tmpI rfl .nil) ?_
    refine ⟨congrArg (Value.int .i64) ?_, hS.old⟩
    unfold need
    simp only [Bool.or_eq_true, decide_eq_true_eq] at hr0
    rw [if_pos (by omega)]; rfl
  ·
    have hr0 := hc0
    try simp only [decide_eq_true_eq, decide_eq_false_iff_not, Bool.and_eq_true, Bool.or_eq_true, Bool.and_eq_false_iff, Bool.or_eq_false_iff, Bool.not_eq_true', Bool.not_eq_false', Int.not_lt, Int.not_le] at hc0
    refine WC.skip ?_
    refine thenQ_n (hK2 _ _ ?_)
    refine WC.seq (fun K5 hK5 => ?_)
    refine WC.region ?_
    refine WL.op rfl (opW.assignI rfl ?_)
    refine WL.nil ?_
    refine thenQ_n (hK5 _ _ ?_)
    refine WC.ret ?_
    refine bodyQ_ret (.tmpI rfl .nil) ?_
    refine ⟨congrArg (Value.int .i64) ?_, hS.old⟩
    unfold need
    simp only [Bool.or_eq_false_iff, decide_eq_false_iff_not] at hr0
    rw [if_neg (by omega)]; rfl

theorem beyond_ok (w0 : World) (b : Nat) (rv : Value) (r : List Role) (c : UInt8) (hp : Pt w0 (.pointer (some ⟨b, 0, none⟩)) #[rv]) (hr : SlR w0 rv r) : Ret Tryd.prog 46 #[.int .u8 (c.toNat : Int), .pointer (some ⟨b, 0, none⟩)] w0 (fun u w' => u = .bool (decide ((r.length : Int) ≤ (c.toNat : Int))) ∧ Bel w0 w') := by
  refine Ret.enter (args := [.int .u8 (c.toNat : Int), .pointer (some ⟨b, 0, none⟩)]) Tryd.func46 rfl Tryd.ntmps46 Tryd.results46 rfl ?_
  have hS := St.start w0
  refine WC.seq (fun K1 hK1 => ?_)
  refine WC.region ?_
  refine WL.op rfl (opW.assignB rfl ?_)
  refine WL.nil ?_
  refine thenQ_n (hK1 _ _ ?_)
  refine WC.seq (fun K2 hK2 => ?_)
  refine WC.region ?_
  refine WL.op rfl (opW.moveI rfl ?_)
  refine WL.op rfl (opW.conv rfl (wrap_i64 (by have := u8_lt c; omega)) ?_)
  refine WL.op rfl (opW.loadV rfl ((hp.bel hS.old).ld rfl) ?_)
  refine WL.op rfl (opW.lenV rfl ((hr.bel hS.old)) ?_)
  refine WL.op rfl (opW.geq rfl rfl ?_)
  refine WL.op rfl (opW.assignB rfl ?_)
  refine WL.nil ?_
  refine thenQ_n (hK2 _ _ ?_)
  refine WC.ret ?_
  refine bodyQ_ret (.tmpB rfl .nil) ?_
  exact ⟨rfl, hS.old⟩

theorem index_ok (w0 : World) (v fv : Value) (xs : List UInt8) (p : UInt8 → Bool) (hx : SlR w0 v xs) (hf : ∀ w, Bel w0 w → ∀ c : UInt8, FnV Tryd.prog fv [.int .u8 (c.toNat : Int)] w (fun u w' => u = .bool (p c) ∧ Bel w w')) : Ret Tryd.prog 53 #[v, fv] w0 (fun u w' => ∃ n : Int, u = .int .i64 n ∧ decide (0 ≤ n) = xs.any p ∧ Bel w0 w') := by
  refine Ret.enter (args := [v, fv]) Tryd.func53 rfl Tryd.ntmps53 Tryd.results53 rfl ?_
  have hS := St.start w0
  refine WC.seq (fun K1 hK1 => ?_)
  refine WC.region ?_
  refine WL.op rfl (opW.assignI rfl ?_)
  refine WL.nil ?_
  refine thenQ_n (hK1 _ _ ?_)
  refine WC.seq (fun K2 hK2 => ?_)
  refine WC.seq (fun K3 hK3 => ?_)
  refine WC.region ?_
  refine WL.op rfl (opW.moveV (v := v) rfl ?_)
  refine WL.op rfl (opW.lenV rfl ((hx.bel hS.old)) ?_)
  refine WL.op rfl (opW.moveI rfl ?_)
  refine WL.nil ?_
  refine thenQ_n (hK3 _ _ ?_)
  refine WC.block ?_
  refine WC.loop (fun q f w => ∃ k : Nat, Fits [(0, v), (1, fv), (7, .int .i64 (xs.length : Int)), (8, .int .i64 (k : Int))] f ∧ St w0 [] w ∧ (∀ j (h : j < xs.length), j < k → p xs[j] = false) ∧ k ≤ xs.length ∧ q = xs.length - k) (xs.length) ?_ ?_
  ·
    exact ⟨0, ⟨rfl, rfl, rfl, rfl, trivial⟩, hS, fun j _ h => absurd h (by omega), Nat.zero_le _, rfl⟩
  ·
    rintro q f w ⟨k, hfit, hS, hno, hk0, hm⟩
    refine WC.fits _ hfit (fun g => ?_)
    clear hfit
    refine WC.seq (fun K4 hK4 => ?_)
    refine WC.region ?_
    refine WL.op rfl (opW.lss rfl rfl ?_)
    refine WL.nil ?_
    refine thenQ_n (hK4 _ _ ?_)
    refine WC.seq (fun K5 hK5 => ?_)
    refine WC.cond _ rfl (fun hc0 => ?_) (fun hc0 => ?_)
    ·
      have hr0 := hc0
      try simp only [decide_eq_true_eq, decide_eq_false_iff_not, Bool.and_eq_true, Bool.or_eq_true, Bool.and_eq_false_iff, Bool.or_eq_false_iff, Bool.not_eq_true', Bool.not_eq_false', Int.not_lt, Int.not_le] at hc0
      have hkl : k < xs.length := by omega
      have hle := hx.le
      simp only [maxLen] at hle
      refine WC.skip ?_
      refine thenQ_n (hK5 _ _ ?_)
      refine WC.seq (fun K6 hK6 => ?_)
      refine WC.block ?_
      refine WC.seq (fun K7 hK7 => ?_)
      refine WC.region ?_
      refine WL.op rfl (opW.moveI rfl ?_)
      refine WL.op rfl (opW.assignI rfl ?_)
      refine WL.nil ?_
      refine thenQ_n (hK7 _ _ ?_)
      refine WC.seq (fun K8 hK8 => ?_)
      refine WC.region ?_
      refine WL.op rfl (opW.moveV (v := fv) rfl ?_)
      refine WL.op rfl (opW.moveV (v := v) rfl ?_)
      refine WL.op rfl (opW.moveI rfl ?_)
      refine WL.op rfl (opW.idxV rfl ((hx.bel hS.old)) rfl (by omega) ?_)
      refine WL.op rfl (opW.loadV rfl (((hx.bel hS.old).isPt hkl).ld rfl) ?_)
      refine WL.op rfl (opW.callV rfl (hf _ hS.old xs[k]) rfl ?_)
      rintro _ w ⟨rfl, hw⟩; replace hS := hS.bel hw
      refine WL.nil ?_
      refine thenQ_n (hK8 _ _ ?_)
      refine WC.cond _ rfl (fun hc1 => ?_) (fun hc1 => ?_)
      ·
        have hr1 := hc1
        try simp only [decide_eq_true_eq, decide_eq_false_iff_not, Bool.and_eq_true, Bool.or_eq_true, Bool.and_eq_false_iff, Bool.or_eq_false_iff, Bool.not_eq_true', Bool.not_eq_false', Int.not_lt, Int.not_le] at hc1
        refine WC.seq (fun K9 hK9 => ?_)
        refine WC.region ?_
        refine WL.op rfl (opW.moveI rfl ?_)
        refine WL.op rfl (opW.assignI rfl ?_)
        refine WL.nil ?_
        refine thenQ_n (hK9 _ _ ?_)
        refine WC.ret ?_
        refine blockQ_r ?_
        refine thenQ_r ?_
        refine thenQ_r ?_
        refine blockQ_r ?_
        refine thenQ_r ?_
        refine bodyQ_ret (.tmpI rfl .nil) ?_
        exact ⟨_, rfl, by rw [List.any_eq_true.2 ⟨xs[k], List.getElem_mem hkl, hr1⟩]; exact decide_eq_true (by omega), hS.old⟩
      ·
        have hr1 := hc1
        try simp only [decide_eq_true_eq, decide_eq_false_iff_not, Bool.and_eq_true, Bool.or_eq_true, Bool.and_eq_false_iff, Bool.or_eq_false_iff, Bool.not_eq_true', Bool.not_eq_false', Int.not_lt, Int.not_le] at hc1
        refine WC.skip ?_
        refine blockQ_n ?_
        refine thenQ_n (hK6 _ _ ?_)
        refine WC.region ?_
        refine WL.op rfl (opW.add rfl rfl (wrap_i64 (by omega)) ?_)
        refine WL.op rfl (opW.moveI rfl ?_)
        refine WL.nil ?_
        refine thenQ_n ?_
        exact ⟨xs.length - (k + 1), by omega, k + 1, ⟨rfl, rfl, rfl, congrArg (Value.int .i64) (by omega), trivial⟩, hS, fun j h1 h2 => (by rcases Nat.lt_or_ge j k with h | h; exact hno j h1 h; obtain rfl : j = k := (by omega); exact hr1), by omega, rfl⟩
    ·
      have hr0 := hc0
      try simp only [decide_eq_true_eq, decide_eq_false_iff_not, Bool.and_eq_true, Bool.or_eq_true, Bool.and_eq_false_iff, Bool.or_eq_false_iff, Bool.not_eq_true', Bool.not_eq_false', Int.not_lt, Int.not_le] at hc0
      refine WC.exit ?_
      refine thenQ_e ?_
      refine thenQ_e ?_
      refine blockQ_hit ?_
      refine thenQ_n (hK2 _ _ ?_)
      refine WC.seq (fun K10 hK10 => ?_)
      refine WC.region ?_
      refine WL.op rfl (opW.assignI rfl ?_)
      refine WL.nil ?_
      refine thenQ_n (hK10 _ _ ?_)
      refine WC.ret ?_
      refine bodyQ_ret (.tmpI rfl .nil) ?_
      refine ⟨_, rfl, ?_, hS.old⟩
      rw [List.any_eq_false.2 (fun c hc => by obtain ⟨j, hj, rfl⟩ := List.getElem_of_mem hc; rw [hno j hj (by omega)]; decide)]
      rfl

theorem contains_ok (w0 : World) (v fv : Value) (xs : List UInt8) (p : UInt8 → Bool) (hx : SlR w0 v xs) (hf : ∀ w, Bel w0 w → ∀ c : UInt8, FnV Tryd.prog fv [.int .u8 (c.toNat : Int)] w (fun u w' => u = .bool (p c) ∧ Bel w w')) : Ret Tryd.prog 47 #[v, fv] w0 (fun u w' => u = .bool (xs.any p) ∧ Bel w0 w') := by
  refine Ret.enter (args := [v, fv]) Tryd.func47 rfl Tryd.ntmps47 Tryd.results47 rfl ?_
  have hS := St.start w0
  refine WC.seq (fun K1 hK1 => ?_)
  refine WC.region ?_
  refine WL.op rfl (opW.assignB rfl ?_)
  refine WL.nil ?_
  refine thenQ_n (hK1 _ _ ?_)
  refine WC.seq (fun K2 hK2 => ?_)
  refine WC.region ?_
  refine WL.op rfl (opW.moveV (v := v) rfl ?_)
  refine WL.op rfl (opW.moveV (v := fv) rfl ?_)
  refine WL.op rfl (opW.call (index_ok _ v fv xs p (hx.bel hS.old) (fun w h c => hf w (hS.old.trans h) c)) rfl ?_)
  rintro _ w ⟨n, rfl, hn, hw⟩; replace hS := hS.bel hw
  refine WL.op rfl (opW.geq rfl rfl ?_)
  refine WL.op rfl (opW.assignB rfl ?_)
  refine WL.nil ?_
  refine thenQ_n (hK2 _ _ ?_)
  refine WC.ret ?_
  refine bodyQ_ret (.tmpB rfl .nil) ?_
  exact ⟨congrArg Value.bool hn, hS.old⟩

theorem taken_ok (w0 : World) (x : Ask) (rv va : Value) (r : List Role) (ats : List UInt8) (hr : SlR w0 rv r) (ha : SlR w0 va ats) : Ret Tryd.prog 42 #[.agg (Enc.enc x), rv, va] w0 (fun u w' => u = .int .i64 (takF x.tag r ats) ∧ Bel w0 w') := by
  refine Ret.enter (args := [.agg (Enc.enc x), rv, va]) Tryd.func42 rfl Tryd.ntmps42 Tryd.results42 rfl ?_
  have hS := St.start w0
  obtain ⟨sr, rfl⟩ := hr.asV
  refine WC.seq (fun K1 hK1 => ?_)
  refine WC.region ?_
  refine WL.op rfl (opW.boxA hS rfl ?_)
  intro b3 w _ hS
  refine WL.op rfl (opW.box1 hS (v := sr.v) rfl rfl ?_)
  intro b4 w _ hS
  refine WL.op rfl (opW.assignI rfl ?_)
  refine WL.nil ?_
  refine thenQ_n (hK1 _ _ ?_)
  refine WC.seq (fun K2 hK2 => ?_)
  refine WC.region ?_
  refine WL.op rfl (opW.makeFn (vs := []) (cs := [.pointer (some ⟨b4, 0, none⟩)]) rfl rfl ?_)
  refine WL.op rfl (opW.assignV (v := (.func (.func 46) #[] #[.pointer (some ⟨b4, 0, none⟩)])) rfl ?_)
  refine WL.nil ?_
  refine thenQ_n (hK2 _ _ ?_)
  refine WC.seq (fun K3 hK3 => ?_)
  refine WC.seq (fun K4 hK4 => ?_)
  refine WC.region ?_
  refine WL.op rfl (opW.moveV (v := va) rfl ?_)
  refine WL.op rfl (opW.lenV rfl ((ha.bel hS.old)) ?_)
  refine WL.op rfl (opW.loadV rfl (hS.ldA (cs := Enc.enc x) (by first | exact .h0 | exact .h1 | exact .h2 | exact .h3 | exact .h4 | exact .h5 | exact .h6 | exact .h7 | exact .h8 | exact .h9 | exact .h10 | exact .h11 | exact .h12 | exact .h13 | exact .h14) (Enc.size_eq _)) ?_)
  refine WL.op rfl (opW.call (need_ok _ x) rfl ?_)
  rintro _ w ⟨rfl, hw⟩; replace hS := hS.bel hw
  refine WL.op rfl (opW.lss rfl rfl ?_)
  refine WL.op rfl (opW.moveB rfl ?_)
  refine WL.gd _ 16 _ rfl rfl rfl rfl (fun hg17 => opW.moveV (v := va) rfl ⟨rfl, Bel.refl _⟩) (fun w hw => ?_)
  replace hS := hS.bel hw
  refine WL.gd _ 16 _ rfl rfl rfl rfl (fun hg18 => opW.moveV (v := (.func (.func 46) #[] #[.pointer (some ⟨b4, 0, none⟩)])) rfl ⟨rfl, Bel.refl _⟩) (fun w hw => ?_)
  replace hS := hS.bel hw
  refine WL.gd _ 16 (.bool (lacks r.length ats)) rfl rfl rfl rfl (fun hg19 => ?_) (fun w hw => ?_)
  · refine opW.call (contains_ok _ va (.func (.func 46) #[] #[.pointer (some ⟨b4, 0, none⟩)]) ats (fun c => decide ((r.length : Int) ≤ (c.toNat : Int))) (ha.bel hS.old) (fun w' h c => ⟨_, [], [.pointer (some ⟨b4, 0, none⟩)], rfl, inferInstance, beyond_ok w' b4 sr.v r c ((hS.pt (by first | exact .h0 | exact .h1 | exact .h2 | exact .h3 | exact .h4 | exact .h5 | exact .h6 | exact .h7 | exact .h8 | exact .h9 | exact .h10 | exact .h11 | exact .h12 | exact .h13 | exact .h14)).bel h) (hr.bel (hS.old.trans h))⟩)) (args2 (by first | exact gv_of rfl hg19 | rfl) (by first | exact gv_of rfl hg19 | rfl)) ?_
    rintro v w ⟨rfl, hw⟩; replace hS := hS.bel hw
    exact ⟨rfl, ‹_›⟩
  replace hS := hS.bel hw
  refine WL.op rfl (opW.pickOr rfl rfl (by first | rfl) ?_)
  refine WL.nil ?_
  refine thenQ_n (hK4 _ _ ?_)
  refine WC.cond _ rfl (fun hc0 => ?_) (fun hc0 => ?_)
  ·
    have hr0 := hc0
    try simp only [decide_eq_true_eq, decide_eq_false_iff_not, Bool.and_eq_true, Bool.or_eq_true, Bool.and_eq_false_iff, Bool.or_eq_false_iff, Bool.not_eq_true', Bool.not_eq_false', Int.not_lt, Int.not_le] at hc0
    refine WC.seq (fun K5 hK5 => ?_)
    refine WC.region ?_
    refine WL.op rfl (opW.assignI rfl ?_)
    refine WL.nil ?_
    refine thenQ_n (hK5 _ _ ?_)
    refine WC.ret ?_
    refine thenQ_r ?_
    refine bodyQ_ret (.tmpI rfl .nil) ?_
    refine ⟨congrArg (Value.int .i64) ?_, hS.old⟩
    unfold takF; rw [if_pos hr0]
  ·
    have hr0 := hc0
    try simp only [decide_eq_true_eq, decide_eq_false_iff_not, Bool.and_eq_true, Bool.or_eq_true, Bool.and_eq_false_iff, Bool.or_eq_false_iff, Bool.not_eq_true', Bool.not_eq_false', Int.not_lt, Int.not_le] at hc0
    obtain ⟨hl1, hl2⟩ := Bool.or_eq_false_iff.1 hr0
    simp only [decide_eq_false_iff_not] at hl1
    have hn := need_12 x.tag
    have htk : takF x.tag r ats = roleErrs x.tag r (ats.take (need x.tag)) 0 := by unfold takF; rw [if_neg (by rw [hr0]; decide)]
    have hln : (ats.take (need x.tag)).length = (need x.tag) := by simp; omega
    have hcut : SlR w0 (cutV va 0 (need x.tag) (capV va) (Enc.sz UInt8)) (ats.take (need x.tag)) := ha.front (by omega) (by have := ha.cap; omega) (Nat.le_refl _)
    have hrl := hr.le
    simp only [maxLen] at hrl
    refine WC.skip ?_
    refine thenQ_n (hK3 _ _ ?_)
    refine WC.seq (fun K6 hK6 => ?_)
    refine WC.seq (fun K7 hK7 => ?_)
    refine WC.region ?_
    refine WL.op rfl (opW.moveV (v := va) rfl ?_)
    refine WL.op rfl (opW.loadV rfl (hS.ldA (cs := Enc.enc x) (by first | exact .h0 | exact .h1 | exact .h2 | exact .h3 | exact .h4 | exact .h5 | exact .h6 | exact .h7 | exact .h8 | exact .h9 | exact .h10 | exact .h11 | exact .h12 | exact .h13 | exact .h14) (Enc.size_eq _)) ?_)
    refine WL.op rfl (opW.call (need_ok _ x) rfl ?_)
    rintro _ w ⟨rfl, hw⟩; replace hS := hS.bel hw
    refine WL.op rfl (opW.cutS (l := 0) (h' := (need x.tag)) (m := capV va) (ha.bel hS.old) ⟨rfl, Nat.le_refl _⟩ ⟨⟨_, rfl⟩, by have := ha.cap; omega⟩ ⟨rfl, Nat.zero_le _⟩ ?_)
    refine WL.op rfl (opW.lenV rfl ((hcut.bel hS.old)) ?_)
    refine WL.op rfl (opW.moveI rfl ?_)
    refine WL.nil ?_
    refine thenQ_n (hK7 _ _ ?_)
    refine WC.block ?_
    refine WC.loop (fun q f w => ∃ k : Nat, Fits [(3, .pointer (some ⟨b3, 0, none⟩)), (4, .pointer (some ⟨b4, 0, none⟩)), (24, (cutV va 0 (need x.tag) (capV va) (Enc.sz UInt8))), (25, .int .i64 ((ats.take (need x.tag)).length : Int)), (26, .int .i64 (k : Int))] f ∧ St w0 [blkE b4 #[sr.v] 36, blkE b3 (Enc.enc x) 132] w ∧ roleErrs x.tag r ((ats.take (need x.tag)).drop k) k = roleErrs x.tag r (ats.take (need x.tag)) 0 ∧ k ≤ (ats.take (need x.tag)).length ∧ q = (ats.take (need x.tag)).length - k) ((ats.take (need x.tag)).length) ?_ ?_
    ·
      exact ⟨0, ⟨rfl, rfl, rfl, rfl, rfl, trivial⟩, hS, by rw [List.drop_zero], Nat.zero_le _, rfl⟩
    ·
      rintro q f w ⟨k, hfit, hS, hinv, hk0, hm⟩
      refine WC.fits _ hfit (fun g => ?_)
      clear hfit
      refine WC.seq (fun K8 hK8 => ?_)
      refine WC.region ?_
      refine WL.op rfl (opW.lss rfl rfl ?_)
      refine WL.nil ?_
      refine thenQ_n (hK8 _ _ ?_)
      refine WC.seq (fun K9 hK9 => ?_)
      refine WC.cond _ rfl (fun hc1 => ?_) (fun hc1 => ?_)
      ·
        have hr1 := hc1
        try simp only [decide_eq_true_eq, decide_eq_false_iff_not, Bool.and_eq_true, Bool.or_eq_true, Bool.and_eq_false_iff, Bool.or_eq_false_iff, Bool.not_eq_true', Bool.not_eq_false', Int.not_lt, Int.not_le] at hc1
        have hkl : k < (ats.take (need x.tag)).length := by omega
        have hmem : (ats.take (need x.tag))[k] ∈ ats := List.mem_of_mem_take (List.getElem_mem hkl)
        have hkr := lacks_no hl2 hmem
        refine WC.skip ?_
        refine thenQ_n (hK9 _ _ ?_)
        refine WC.seq (fun K10 hK10 => ?_)
        refine WC.block ?_
        refine WC.seq (fun K11 hK11 => ?_)
        refine WC.region ?_
        refine WL.op rfl (opW.moveI rfl ?_)
        refine WL.op rfl (opW.idxV rfl ((hcut.bel hS.old)) rfl (by omega) ?_)
        refine WL.op rfl (opW.loadV rfl (((hcut.bel hS.old).isPt hkl).ld rfl) ?_)
        refine WL.op rfl (opW.assignI rfl ?_)
        refine WL.op rfl (opW.assignI rfl ?_)
        refine WL.nil ?_
        refine thenQ_n (hK11 _ _ ?_)
        refine WC.block ?_
        refine WC.seq (fun K12 hK12 => ?_)
        refine WC.region ?_
        refine WL.op rfl (opW.loadV rfl (hS.ld1 (by first | exact .h0 | exact .h1 | exact .h2 | exact .h3 | exact .h4 | exact .h5 | exact .h6 | exact .h7 | exact .h8 | exact .h9 | exact .h10 | exact .h11 | exact .h12 | exact .h13 | exact .h14) rfl) ?_)
        refine WL.op rfl (opW.moveI rfl ?_)
        refine WL.op rfl (opW.idxV rfl ((hr.bel hS.old)) rfl (by omega) ?_)
        refine WL.op rfl (opW.fieldAddr rfl ((hr.bel hS.old).isP hkr) ?_)
        refine WL.op rfl (opW.loadV rfl (Ld.pt1 ((hr.bel hS.old).isPt hkr) 32 (Role.at_signs _)) ?_)
        refine WL.op rfl (opW.not rfl ?_)
        refine WL.op rfl (opW.moveB rfl ?_)
        refine WL.gd _ 38 _ rfl rfl rfl rfl (fun hg39 => opW.fieldAddrB rfl ⟨rfl, Bel.refl _⟩) (fun w hw => ?_)
        replace hS := hS.bel hw
        refine WL.gd _ 38 _ rfl rfl rfl rfl (fun hg40 => opW.loadV (by first | exact gv_of rfl hg40 | rfl) (hS.ld1 (by first | exact .h0 | exact .h1 | exact .h2 | exact .h3 | exact .h4 | exact .h5 | exact .h6 | exact .h7 | exact .h8 | exact .h9 | exact .h10 | exact .h11 | exact .h12 | exact .h13 | exact .h14) (Ask.at_tag _)) ⟨rfl, Bel.refl _⟩) (fun w hw => ?_)
        replace hS := hS.bel hw
        refine WL.gd _ 38 _ rfl rfl rfl rfl (fun hg41 => opW.eql (by first | exact gv_of rfl hg41 | rfl) rfl ⟨rfl, Bel.refl _⟩) (fun w hw => ?_)
        replace hS := hS.bel hw
        refine WL.gd _ 38 _ rfl rfl rfl rfl (fun hg42 => opW.moveB (by first | exact gv_of rfl hg42 | rfl) ⟨rfl, Bel.refl _⟩) (fun w hw => ?_)
        replace hS := hS.bel hw
        refine WL.gd2 _ _ 42 _ rfl rfl rfl rfl (fun hg43 => opW.moveI rfl ⟨rfl, Bel.refl _⟩) (fun w hw => ?_)
        replace hS := hS.bel hw
        refine WL.gd2 _ _ 42 _ rfl rfl rfl rfl (fun hg44 => opW.gtr (by first | exact gv_of rfl hg44 | rfl) rfl ⟨rfl, Bel.refl _⟩) (fun w hw => ?_)
        replace hS := hS.bel hw
        refine WL.gd _ 38 _ rfl rfl rfl rfl (fun hg45 => opW.pickAnd (by first | exact gv_of rfl hg45 | rfl) (by first | exact gv_and rfl hg45 | rfl) rfl ⟨rfl, Bel.refl _⟩) (fun w hw => ?_)
        replace hS := hS.bel hw
        refine WL.gd _ 38 _ rfl rfl rfl rfl (fun hg46 => opW.not (by first | exact gv_of rfl hg46 | rfl) ⟨rfl, Bel.refl _⟩) (fun w hw => ?_)
        replace hS := hS.bel hw
        refine WL.op rfl (opW.pickAnd rfl (by first | rfl) rfl ?_)
        refine WL.op rfl (opW.assignB rfl ?_)
        refine WL.nil ?_
        refine thenQ_n (hK12 _ _ ?_)
        refine WC.cond _ rfl (fun hc2 => ?_) (fun hc2 => ?_)
        ·
          have hr2 := hc2
          try simp only [decide_eq_true_eq, decide_eq_false_iff_not, Bool.and_eq_true, Bool.or_eq_true, Bool.and_eq_false_iff, Bool.or_eq_false_iff, Bool.not_eq_true', Bool.not_eq_false', Int.not_lt, Int.not_le] at hc2
          refine WC.seq (fun K13 hK13 => ?_)
          refine WC.region ?_
          refine WL.op rfl (opW.assignI rfl ?_)
          refine WL.nil ?_
          refine thenQ_n (hK13 _ _ ?_)
          refine WC.ret ?_
          refine blockQ_r ?_
          refine blockQ_r ?_
          refine thenQ_r ?_
          refine thenQ_r ?_
          refine blockQ_r ?_
          refine thenQ_r ?_
          refine bodyQ_ret (.tmpI rfl .nil) ?_
          refine ⟨congrArg (Value.int .i64) ?_, hS.old⟩
          rw [htk, ← hinv, roleErrs_hit hkl (roleErr_s hkr hr2) (by decide)]
        ·
          have hr2 := hc2
          try simp only [decide_eq_true_eq, decide_eq_false_iff_not, Bool.and_eq_true, Bool.or_eq_true, Bool.and_eq_false_iff, Bool.or_eq_false_iff, Bool.not_eq_true', Bool.not_eq_false', Int.not_lt, Int.not_le] at hc2
          refine WC.seq (fun K14 hK14 => ?_)
          refine WC.region ?_
          refine WL.op rfl (opW.loadV rfl (hS.ld1 (by first | exact .h0 | exact .h1 | exact .h2 | exact .h3 | exact .h4 | exact .h5 | exact .h6 | exact .h7 | exact .h8 | exact .h9 | exact .h10 | exact .h11 | exact .h12 | exact .h13 | exact .h14) rfl) ?_)
          refine WL.op rfl (opW.moveI rfl ?_)
          refine WL.op rfl (opW.idxV rfl ((hr.bel hS.old)) rfl (by omega) ?_)
          refine WL.op rfl (opW.fieldAddr rfl ((hr.bel hS.old).isP hkr) ?_)
          refine WL.op rfl (opW.loadV rfl (Ld.pt1 ((hr.bel hS.old).isPt hkr) 33 (Role.at_writes _)) ?_)
          refine WL.op rfl (opW.not rfl ?_)
          refine WL.op rfl (opW.assignB rfl ?_)
          refine WL.nil ?_
          refine thenQ_n (hK14 _ _ ?_)
          refine WC.cond _ rfl (fun hc3 => ?_) (fun hc3 => ?_)
          ·
            have hr3 := hc3
            try simp only [decide_eq_true_eq, decide_eq_false_iff_not, Bool.and_eq_true, Bool.or_eq_true, Bool.and_eq_false_iff, Bool.or_eq_false_iff, Bool.not_eq_true', Bool.not_eq_false', Int.not_lt, Int.not_le] at hc3
            refine WC.seq (fun K15 hK15 => ?_)
            refine WC.region ?_
            refine WL.op rfl (opW.assignI rfl ?_)
            refine WL.nil ?_
            refine thenQ_n (hK15 _ _ ?_)
            refine WC.ret ?_
            refine blockQ_r ?_
            refine blockQ_r ?_
            refine thenQ_r ?_
            refine thenQ_r ?_
            refine blockQ_r ?_
            refine thenQ_r ?_
            refine bodyQ_ret (.tmpI rfl .nil) ?_
            refine ⟨congrArg (Value.int .i64) ?_, hS.old⟩
            rw [htk, ← hinv, roleErrs_hit hkl (roleErr_w hkr hr2 hr3) (by decide)]
          ·
            have hr3 := hc3
            try simp only [decide_eq_true_eq, decide_eq_false_iff_not, Bool.and_eq_true, Bool.or_eq_true, Bool.and_eq_false_iff, Bool.or_eq_false_iff, Bool.not_eq_true', Bool.not_eq_false', Int.not_lt, Int.not_le] at hc3
            refine WC.skip ?_
            refine blockQ_n ?_
            refine blockQ_n ?_
            refine thenQ_n (hK10 _ _ ?_)
            refine WC.region ?_
            refine WL.op rfl (opW.add rfl rfl (wrap_i64 (by omega)) ?_)
            refine WL.op rfl (opW.moveI rfl ?_)
            refine WL.nil ?_
            refine thenQ_n ?_
            rw [roleErrs_go hkl (roleErr_0 hkr hr2 hr3)] at hinv
            exact ⟨(ats.take (need x.tag)).length - (k + 1), by omega, k + 1, ⟨rfl, rfl, rfl, rfl, congrArg (Value.int .i64) (by omega), trivial⟩, hS, hinv, by omega, rfl⟩
      ·
        have hr1 := hc1
        try simp only [decide_eq_true_eq, decide_eq_false_iff_not, Bool.and_eq_true, Bool.or_eq_true, Bool.and_eq_false_iff, Bool.or_eq_false_iff, Bool.not_eq_true', Bool.not_eq_false', Int.not_lt, Int.not_le] at hc1
        refine WC.exit ?_
        refine thenQ_e ?_
        refine thenQ_e ?_
        refine blockQ_hit ?_
        refine thenQ_n (hK6 _ _ ?_)
        refine WC.seq (fun K16 hK16 => ?_)
        refine WC.region ?_
        refine WL.op rfl (opW.assignI rfl ?_)
        refine WL.nil ?_
        refine thenQ_n (hK16 _ _ ?_)
        refine WC.ret ?_
        refine bodyQ_ret (.tmpI rfl .nil) ?_
        refine ⟨congrArg (Value.int .i64) ?_, hS.old⟩
        rw [htk, ← hinv, List.drop_of_length_le (by omega)]; rfl

end Go.Fer
