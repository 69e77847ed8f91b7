/- taken, what each tag does -/
import Derived.Test.YtmibkfdpgmohfaaGreatDoorA
set_option linter.all false
namespace Go.Fer
open Go Go.Proofs Go.RowKit

/-- what is wrong with who stands at a place -/
def roleErr (t : Nat) (r : List Role) (i : Nat) (c : UInt8) : Int :=
 let ρ := r.getD c.toNat ⟨vz 32, false, false⟩
 if (!ρ.signs && !(decide ((t : Int) = 2) && decide ((0 : Int) < (i : Int)))) = true then 14 else if (!ρ.writes) = true then 15 else 0
def roleErrs (t : Nat) (r : List Role) : List UInt8 → Nat → Int
 | [], _ => 0
 | c :: l, i => if roleErr t r i c ≠ 0 then roleErr t r i c else roleErrs t r l (i + 1)
def lacks (n : Nat) (ats : List UInt8) : Bool := ats.any fun c => decide ((n : Int) ≤ (c.toNat : Int))
def takF (t : Nat) (r : List Role) (ats : List UInt8) : Int :=
 if (decide ((ats.length : Int) < (need t : Int)) || lacks r.length ats) = true then 8 else roleErrs t r (ats.take (need t)) 0
theorem roleErrs_step {t : Nat} {r : List Role} {l : List UInt8} {k : Nat} (hk : k < l.length) : roleErrs t r (l.drop k) k = if roleErr t r k l[k] ≠ 0 then roleErr t r k l[k] else roleErrs t r (l.drop (k + 1)) (k + 1) := by
 rw [List.drop_eq_getElem_cons hk]; rfl
theorem roleErr_of {t : Nat} {r : List Role} {i : Nat} {c : UInt8} (h : c.toNat < r.length) : roleErr t r i c = if (!r[c.toNat].signs && !(decide ((t : Int) = 2) && decide ((0 : Int) < (i : Int)))) = true then 14 else if (!r[c.toNat].writes) = true then 15 else 0 := by
 unfold roleErr
 rw [show r.getD c.toNat ⟨vz 32, false, false⟩ = r[c.toNat] from by simp [List.getD_eq_getElem?_getD, h]]
theorem roleErrs_hit {t : Nat} {r : List Role} {l : List UInt8} {k : Nat} {e : Int} (hk : k < l.length) (h : roleErr t r k l[k] = e) (he : e ≠ 0) : roleErrs t r (l.drop k) k = e := by
 rw [roleErrs_step hk, h, if_pos he]
theorem roleErrs_go {t : Nat} {r : List Role} {l : List UInt8} {k : Nat} (hk : k < l.length) (h : roleErr t r k l[k] = 0) : roleErrs t r (l.drop k) k = roleErrs t r (l.drop (k + 1)) (k + 1) := by
 rw [roleErrs_step hk, h, if_neg (by decide)]
theorem roleErr_s {t : Nat} {r : List Role} {i : Nat} {c : UInt8} (h : c.toNat < r.length) (hs : (!r[c.toNat].signs && !(decide ((t : Int) = 2) && decide ((0 : Int) < (i : Int)))) = true) : roleErr t r i c = 14 := by
 rw [roleErr_of h, if_pos hs]
theorem roleErr_w {t : Nat} {r : List Role} {i : Nat} {c : UInt8} (h : c.toNat < r.length) (hs : (!r[c.toNat].signs && !(decide ((t : Int) = 2) && decide ((0 : Int) < (i : Int)))) = false) (hw : (!r[c.toNat].writes) = true) : roleErr t r i c = 15 := by
 rw [roleErr_of h, if_neg (by rw [hs]; decide), if_pos hw]
theorem roleErr_0 {t : Nat} {r : List Role} {i : Nat} {c : UInt8} (h : c.toNat < r.length) (hs : (!r[c.toNat].signs && !(decide ((t : Int) = 2) && decide ((0 : Int) < (i : Int)))) = false) (hw : (!r[c.toNat].writes) = false) : roleErr t r i c = 0 := by
 rw [roleErr_of h, if_neg (by rw [hs]; decide), if_neg (by rw [hw]; decide)]
theorem lacks_no {n : Nat} {ats : List UInt8} (h : lacks n ats = false) {c : UInt8} (hc : c ∈ ats) : c.toNat < n := by
 unfold lacks at h
 have := List.any_eq_false.1 h c hc
 simp only [decide_eq_true_eq] at this
 omega
theorem need_12 (t : Nat) : 1 ≤ need t ∧ need t ≤ 2 := by unfold need; split <;> omega

theorem need_ok (w0 : World) (x : Ask) : Ret Tryz.prog 87 #[.agg (Enc.enc x)] w0 (fun u w' => u = .int .i64 (need x.tag : Int) ∧ Bel w0 w') := by
 refine Ret.enter (args := [.agg (Enc.enc x)]) Tryz.func87 rfl Tryz.ntmps87 Tryz.results87 rfl ?_
 have hS := St.start w0
 refine WC.seq (fun K1 hK1 => ?_)
 refine WC.region ?_
 refine WL.op rfl (opW.boxA hS rfl ?_)
 intro b1 w _ hS
 refine WL.op rfl (opW.assignI rfl ?_)
 refine WL.nil ?_
 refine thenQ_n (hK1 _ _ ?_)
 refine WC.seq (fun K2 hK2 => ?_)
 refine WC.seq (fun K3 hK3 => ?_)
 refine WC.region ?_
 refine WL.op rfl (opW.fieldAddrB rfl ?_)
 refine WL.op rfl (opW.loadV rfl (hS.ld1 (by repeat constructor) (Ask.at_tag _)) ?_)
 refine WL.op rfl (opW.eql rfl rfl ?_)
 refine WL.op rfl (opW.moveB rfl ?_)
 refine WL.gd _ 6 _ rfl rfl rfl rfl (fun hg7 => opW.fieldAddrB rfl ⟨rfl, Bel.refl _⟩) (fun w hw => ?_)
 replace hS := hS.bel hw
 refine WL.gd _ 6 _ rfl rfl rfl rfl (fun hg8 => opW.loadV (by first | exact gv_of rfl hg8 | rfl) (hS.ld1 (by repeat constructor) (Ask.at_tag _)) ⟨rfl, Bel.refl _⟩) (fun w hw => ?_)
 replace hS := hS.bel hw
 refine WL.gd _ 6 _ rfl rfl rfl rfl (fun hg9 => opW.eql (by first | exact gv_of rfl hg9 | rfl) rfl ⟨rfl, Bel.refl _⟩) (fun w hw => ?_)
 replace hS := hS.bel hw
 refine WL.op rfl (opW.pickOr rfl rfl (by first | rfl) ?_)
 refine WL.nil ?_
 refine thenQ_n (hK3 _ _ ?_)
 refine WC.cond _ rfl (fun hc0 => ?_) (fun hc0 => ?_)
 ·
  have hr0 := hc0
  try simp only [sq1,sq2,sq3,sq4,sq5,sq6,sq7,sq8,sq9,sq0] at hc0
  refine WC.seq (fun K4 hK4 => ?_)
  refine WC.region ?_
  refine WL.op rfl (opW.assignI rfl ?_)
  refine WL.nil ?_
  refine thenQ_n (hK4 _ _ ?_)
  refine WC.ret ?_
  refine thenQ_r ?_
  refine bodyQ_ret (.tmpI rfl .nil) ?_
  refine ⟨congrArg (Value.int .i64) ?_, hS.old⟩
  unfold need
  simp only [Bool.or_eq_true, decide_eq_true_eq] at hr0
  rw [if_pos (by omega)]; rfl
 ·
  have hr0 := hc0
  try simp only [sq1,sq2,sq3,sq4,sq5,sq6,sq7,sq8,sq9,sq0] at hc0
  refine WC.skip ?_
  refine thenQ_n (hK2 _ _ ?_)
  refine WC.seq (fun K5 hK5 => ?_)
  refine WC.region ?_
  refine WL.op rfl (opW.assignI rfl ?_)
  refine WL.nil ?_
  refine thenQ_n (hK5 _ _ ?_)
  refine WC.ret ?_
  refine bodyQ_ret (.tmpI rfl .nil) ?_
  refine ⟨congrArg (Value.int .i64) ?_, hS.old⟩
  unfold need
  simp only [Bool.or_eq_false_iff, decide_eq_false_iff_not] at hr0
  rw [if_neg (by omega)]; rfl

theorem beyond_ok (w0 : World) (b : Nat) (rv : Value) (r : List Role) (c : UInt8) (hp : Pt w0 (.pointer (some ⟨b, 0, none⟩)) #[rv]) (hr : SlR w0 rv r) : Ret Tryz.prog 92 #[.int .u8 (c.toNat : Int), .pointer (some ⟨b, 0, none⟩)] w0 (fun u w' => u = .bool (decide ((r.length : Int) ≤ (c.toNat : Int))) ∧ Bel w0 w') := by
 refine Ret.enter (args := [.int .u8 (c.toNat : Int), .pointer (some ⟨b, 0, none⟩)]) Tryz.func92 rfl Tryz.ntmps92 Tryz.results92 rfl ?_
 have hS := St.start w0
 refine WC.seq (fun K1 hK1 => ?_)
 refine WC.region ?_
 refine WL.op rfl (opW.assignB rfl ?_)
 refine WL.nil ?_
 refine thenQ_n (hK1 _ _ ?_)
 refine WC.seq (fun K2 hK2 => ?_)
 refine WC.region ?_
 refine WL.op rfl (opW.moveI rfl ?_)
 refine WL.op rfl (opW.conv rfl (wrap_i64 (by have := u8_lt c; omega)) ?_)
 refine WL.op rfl (opW.loadV rfl ((hp.bel hS.old).ld rfl) ?_)
 refine WL.op rfl (opW.lenV rfl ((hr.bel hS.old)) ?_)
 refine WL.op rfl (opW.geq rfl rfl ?_)
 refine WL.op rfl (opW.assignB rfl ?_)
 refine WL.nil ?_
 refine thenQ_n (hK2 _ _ ?_)
 refine WC.ret ?_
 refine bodyQ_ret (.tmpB rfl .nil) ?_
 exact ⟨rfl, hS.old⟩

theorem index_ok (w0 : World) (v fv : Value) (xs : List UInt8) (p : UInt8 → Bool) (hx : SlR w0 v xs) (hf : ∀ w, Bel w0 w → ∀ c : UInt8, FnV Tryz.prog fv [.int .u8 (c.toNat : Int)] w (fun u w' => u = .bool (p c) ∧ Bel w w')) : Ret Tryz.prog 99 #[v, fv] w0 (fun u w' => ∃ n : Int, u = .int .i64 n ∧ decide (0 ≤ n) = xs.any p ∧ Bel w0 w') := by
 refine Ret.enter (args := [v, fv]) Tryz.func99 rfl Tryz.ntmps99 Tryz.results99 rfl ?_
 have hS := St.start w0
 refine WC.seq (fun K1 hK1 => ?_)
 refine WC.region ?_
 refine WL.op rfl (opW.assignI rfl ?_)
 refine WL.nil ?_
 refine thenQ_n (hK1 _ _ ?_)
 refine WC.seq (fun K2 hK2 => ?_)
 refine WC.seq (fun K3 hK3 => ?_)
 refine WC.region ?_
 refine WL.op rfl (opW.moveV (v := v) rfl ?_)
 refine WL.op rfl (opW.lenV rfl ((hx.bel hS.old)) ?_)
 refine WL.op rfl (opW.moveI rfl ?_)
 refine WL.nil ?_
 refine thenQ_n (hK3 _ _ ?_)
 refine WC.block ?_
 refine WC.loop (fun q f w => ∃ k : Nat, Fits [(0, v), (1, fv), (7, .int .i64 (xs.length : Int)), (8, .int .i64 (k : Int))] f ∧ St w0 [] w ∧ (∀ j (h : j < xs.length), j < k → p xs[j] = false) ∧ k ≤ xs.length ∧ q = xs.length - k) (xs.length) ?_ ?_
 ·
  exact ⟨0, ⟨rfl, rfl, rfl, rfl, trivial⟩, hS, fun j _ h => absurd h (by omega), Nat.zero_le _, rfl⟩
 ·
  rintro q f w ⟨k, hfit, hS, hno, hk0, hm⟩
  refine WC.fits _ hfit (fun g => ?_)
  clear hfit
  refine WC.seq (fun K4 hK4 => ?_)
  refine WC.region ?_
  refine WL.op rfl (opW.lss rfl rfl ?_)
  refine WL.nil ?_
  refine thenQ_n (hK4 _ _ ?_)
  refine WC.seq (fun K5 hK5 => ?_)
  refine WC.cond _ rfl (fun hc0 => ?_) (fun hc0 => ?_)
  ·
   have hr0 := hc0
   try simp only [sq1,sq2,sq3,sq4,sq5,sq6,sq7,sq8,sq9,sq0] at hc0
   have hkl : k < xs.length := by omega
   have hle := hx.le
   simp only [maxLen] at hle
   refine WC.skip ?_
   refine thenQ_n (hK5 _ _ ?_)
   refine WC.seq (fun K6 hK6 => ?_)
   refine WC.block ?_
   refine WC.seq (fun K7 hK7 => ?_)
   refine WC.region ?_
   refine WL.op rfl (opW.moveI rfl ?_)
   refine WL.op rfl (opW.assignI rfl ?_)
   refine WL.nil ?_
   refine thenQ_n (hK7 _ _ ?_)
   refine WC.seq (fun K8 hK8 => ?_)
   refine WC.region ?_
   refine WL.op rfl (opW.moveV (v := fv) rfl ?_)
   refine WL.op rfl (opW.moveV (v := v) rfl ?_)
   refine WL.op rfl (opW.moveI rfl ?_)
   refine WL.op rfl (opW.idxV rfl ((hx.bel hS.old)) rfl (by omega) ?_)
   refine WL.op rfl (opW.loadV rfl (((hx.bel hS.old).isPt hkl).ld rfl) ?_)
   refine WL.op rfl (opW.callV rfl (hf _ hS.old xs[k]) rfl ?_)
   rintro _ w ⟨rfl, hw⟩; replace hS := hS.bel hw
   refine WL.nil ?_
   refine thenQ_n (hK8 _ _ ?_)
   refine WC.cond _ rfl (fun hc1 => ?_) (fun hc1 => ?_)
   ·
    have hr1 := hc1
    try simp only [sq1,sq2,sq3,sq4,sq5,sq6,sq7,sq8,sq9,sq0] at hc1
    refine WC.seq (fun K9 hK9 => ?_)
    refine WC.region ?_
    refine WL.op rfl (opW.moveI rfl ?_)
    refine WL.op rfl (opW.assignI rfl ?_)
    refine WL.nil ?_
    refine thenQ_n (hK9 _ _ ?_)
    refine WC.ret ?_
    refine blockQ_r ?_
    refine thenQ_r ?_
    refine thenQ_r ?_
    refine blockQ_r ?_
    refine thenQ_r ?_
    refine bodyQ_ret (.tmpI rfl .nil) ?_
    exact ⟨_, rfl, by rw [List.any_eq_true.2 ⟨xs[k], List.getElem_mem hkl, hr1⟩]; exact decide_eq_true (by omega), hS.old⟩
   ·
    have hr1 := hc1
    try simp only [sq1,sq2,sq3,sq4,sq5,sq6,sq7,sq8,sq9,sq0] at hc1
    refine WC.skip ?_
    refine blockQ_n ?_
    refine thenQ_n (hK6 _ _ ?_)
    refine WC.region ?_
    refine WL.op rfl (opW.add rfl rfl (wrap_i64 (by omega)) ?_)
    refine WL.op rfl (opW.moveI rfl ?_)
    refine WL.nil ?_
    refine thenQ_n ?_
    exact ⟨xs.length - (k + 1), by omega, k + 1, ⟨rfl, rfl, rfl, congrArg (Value.int .i64) (by omega), trivial⟩, hS, fun j h1 h2 => (by rcases Nat.lt_or_ge j k with h | h; exact hno j h1 h; obtain rfl : j = k := (by omega); exact hr1), by omega, rfl⟩
  ·
   have hr0 := hc0
   try simp only [sq1,sq2,sq3,sq4,sq5,sq6,sq7,sq8,sq9,sq0] at hc0
   refine WC.exit ?_
   refine thenQ_e ?_
   refine thenQ_e ?_
   refine blockQ_hit ?_
   refine thenQ_n (hK2 _ _ ?_)
   refine WC.seq (fun K10 hK10 => ?_)
   refine WC.region ?_
   refine WL.op rfl (opW.assignI rfl ?_)
   refine WL.nil ?_
   refine thenQ_n (hK10 _ _ ?_)
   refine WC.ret ?_
   refine bodyQ_ret (.tmpI rfl .nil) ?_
   refine ⟨_, rfl, ?_, hS.old⟩
   rw [List.any_eq_false.2 (fun c hc => by obtain ⟨j, hj, rfl⟩ := List.getElem_of_mem hc; rw [hno j hj (by omega)]; decide)]
   rfl

theorem contains_ok (w0 : World) (v fv : Value) (xs : List UInt8) (p : UInt8 → Bool) (hx : SlR w0 v xs) (hf : ∀ w, Bel w0 w → ∀ c : UInt8, FnV Tryz.prog fv [.int .u8 (c.toNat : Int)] w (fun u w' => u = .bool (p c) ∧ Bel w w')) : Ret Tryz.prog 93 #[v, fv] w0 (fun u w' => u = .bool (xs.any p) ∧ Bel w0 w') := by
 refine Ret.enter (args := [v, fv]) Tryz.func93 rfl Tryz.ntmps93 Tryz.results93 rfl ?_
 have hS := St.start w0
 refine WC.seq (fun K1 hK1 => ?_)
 refine WC.region ?_
 refine WL.op rfl (opW.assignB rfl ?_)
 refine WL.nil ?_
 refine thenQ_n (hK1 _ _ ?_)
 refine WC.seq (fun K2 hK2 => ?_)
 refine WC.region ?_
 refine WL.op rfl (opW.moveV (v := v) rfl ?_)
 refine WL.op rfl (opW.moveV (v := fv) rfl ?_)
 refine WL.op rfl (opW.call (index_ok _ v fv xs p (hx.bel hS.old) (fun w h c => hf w (hS.old.trans h) c)) rfl ?_)
 rintro _ w ⟨n, rfl, hn, hw⟩; replace hS := hS.bel hw
 refine WL.op rfl (opW.geq rfl rfl ?_)
 refine WL.op rfl (opW.assignB rfl ?_)
 refine WL.nil ?_
 refine thenQ_n (hK2 _ _ ?_)
 refine WC.ret ?_
 refine bodyQ_ret (.tmpB rfl .nil) ?_
 exact ⟨congrArg Value.bool hn, hS.old⟩

theorem taken_ok (w0 : World) (x : Ask) (rv va : Value) (r : List Role) (ats : List UInt8) (hr : SlR w0 rv r) (ha : SlR w0 va ats) : Ret Tryz.prog 86 #[.agg (Enc.enc x), rv, va] w0 (fun u w' => u = .int .i64 (takF x.tag r ats) ∧ Bel w0 w') := by
 refine Ret.enter (args := [.agg (Enc.enc x), rv, va]) Tryz.func86 rfl Tryz.ntmps86 Tryz.results86 rfl ?_
 have hS := St.start w0
 obtain ⟨sr, rfl⟩ := hr.asV
 refine WC.seq (fun K1 hK1 => ?_)
 refine WC.region ?_
 refine WL.op rfl (opW.boxA hS rfl ?_)
 intro b3 w _ hS
 refine WL.op rfl (opW.box1 hS (v := sr.v) rfl rfl ?_)
 intro b4 w _ hS
 refine WL.op rfl (opW.assignI rfl ?_)
 refine WL.nil ?_
 refine thenQ_n (hK1 _ _ ?_)
 refine WC.seq (fun K2 hK2 => ?_)
 refine WC.region ?_
 refine WL.op rfl (opW.makeFn (vs := []) (cs := [.pointer (some ⟨b4, 0, none⟩)]) rfl rfl ?_)
 refine WL.op rfl (opW.assignV (v := (.func (.func 92) #[] #[.pointer (some ⟨b4, 0, none⟩)])) rfl ?_)
 refine WL.nil ?_
 refine thenQ_n (hK2 _ _ ?_)
 refine WC.seq (fun K3 hK3 => ?_)
 refine WC.seq (fun K4 hK4 => ?_)
 refine WC.region ?_
 refine WL.op rfl (opW.moveV (v := va) rfl ?_)
 refine WL.op rfl (opW.lenV rfl ((ha.bel hS.old)) ?_)
 refine WL.op rfl (opW.loadV rfl (hS.ldA (cs := Enc.enc x) (by repeat constructor) (Enc.size_eq _)) ?_)
 refine WL.op rfl (opW.call (need_ok _ x) rfl ?_)
 rintro _ w ⟨rfl, hw⟩; replace hS := hS.bel hw
 refine WL.op rfl (opW.lss rfl rfl ?_)
 refine WL.op rfl (opW.moveB rfl ?_)
 refine WL.gd _ 16 _ rfl rfl rfl rfl (fun hg17 => opW.moveV (v := va) rfl ⟨rfl, Bel.refl _⟩) (fun w hw => ?_)
 replace hS := hS.bel hw
 refine WL.gd _ 16 _ rfl rfl rfl rfl (fun hg18 => opW.moveV (v := (.func (.func 92) #[] #[.pointer (some ⟨b4, 0, none⟩)])) rfl ⟨rfl, Bel.refl _⟩) (fun w hw => ?_)
 replace hS := hS.bel hw
 refine WL.gd _ 16 (.bool (lacks r.length ats)) rfl rfl rfl rfl (fun hg19 => ?_) (fun w hw => ?_)
 ·refine opW.call (contains_ok _ va (.func (.func 92) #[] #[.pointer (some ⟨b4, 0, none⟩)]) ats (fun c => decide ((r.length : Int) ≤ (c.toNat : Int))) (ha.bel hS.old) (fun w' h c => ⟨_, [], [.pointer (some ⟨b4, 0, none⟩)], rfl, inferInstance, beyond_ok w' b4 sr.v r c ((hS.pt (by repeat constructor)).bel h) (hr.bel (hS.old.trans h))⟩)) (args2 (by first | exact gv_of rfl hg19 | rfl) (by first | exact gv_of rfl hg19 | rfl)) ?_
  rintro v w ⟨rfl, hw⟩; replace hS := hS.bel hw
  exact ⟨rfl, ‹_›⟩
 replace hS := hS.bel hw
 refine WL.op rfl (opW.pickOr rfl rfl (by first | rfl) ?_)
 refine WL.nil ?_
 refine thenQ_n (hK4 _ _ ?_)
 refine WC.cond _ rfl (fun hc0 => ?_) (fun hc0 => ?_)
 ·
  have hr0 := hc0
  try simp only [sq1,sq2,sq3,sq4,sq5,sq6,sq7,sq8,sq9,sq0] at hc0
  refine WC.seq (fun K5 hK5 => ?_)
  refine WC.region ?_
  refine WL.op rfl (opW.assignI rfl ?_)
  refine WL.nil ?_
  refine thenQ_n (hK5 _ _ ?_)
  refine WC.ret ?_
  refine thenQ_r ?_
  refine bodyQ_ret (.tmpI rfl .nil) ?_
  refine ⟨congrArg (Value.int .i64) ?_, hS.old⟩
  unfold takF; rw [if_pos hr0]
 ·
  have hr0 := hc0
  try simp only [sq1,sq2,sq3,sq4,sq5,sq6,sq7,sq8,sq9,sq0] at hc0
  obtain ⟨hl1, hl2⟩ := Bool.or_eq_false_iff.1 hr0
  simp only [decide_eq_false_iff_not] at hl1
  have hn := need_12 x.tag
  have htk : takF x.tag r ats = roleErrs x.tag r (ats.take (need x.tag)) 0 := by unfold takF; rw [if_neg (by rw [hr0]; decide)]
  have hln : (ats.take (need x.tag)).length = (need x.tag) := by simp; omega
  have hcut : SlR w0 (cutV va 0 (need x.tag) (capV va) (Enc.sz UInt8)) (ats.take (need x.tag)) := ha.front (by omega) (by have := ha.cap; omega) (Nat.le_refl _)
  have hrl := hr.le
  simp only [maxLen] at hrl
  refine WC.skip ?_
  refine thenQ_n (hK3 _ _ ?_)
  refine WC.seq (fun K6 hK6 => ?_)
  refine WC.seq (fun K7 hK7 => ?_)
  refine WC.region ?_
  refine WL.op rfl (opW.moveV (v := va) rfl ?_)
  refine WL.op rfl (opW.loadV rfl (hS.ldA (cs := Enc.enc x) (by repeat constructor) (Enc.size_eq _)) ?_)
  refine WL.op rfl (opW.call (need_ok _ x) rfl ?_)
  rintro _ w ⟨rfl, hw⟩; replace hS := hS.bel hw
  refine WL.op rfl (opW.cutS (l := 0) (h' := (need x.tag)) (m := capV va) (ha.bel hS.old) ⟨rfl, Nat.le_refl _⟩ ⟨⟨_, rfl⟩, by have := ha.cap; omega⟩ ⟨rfl, Nat.zero_le _⟩ ?_)
  refine WL.op rfl (opW.lenV rfl ((hcut.bel hS.old)) ?_)
  refine WL.op rfl (opW.moveI rfl ?_)
  refine WL.nil ?_
  refine thenQ_n (hK7 _ _ ?_)
  refine WC.block ?_
  refine WC.loop (fun q f w => ∃ k : Nat, Fits [(3, .pointer (some ⟨b3, 0, none⟩)), (4, .pointer (some ⟨b4, 0, none⟩)), (24, (cutV va 0 (need x.tag) (capV va) (Enc.sz UInt8))), (25, .int .i64 ((ats.take (need x.tag)).length : Int)), (26, .int .i64 (k : Int))] f ∧ St w0 [blkE b4 #[sr.v] 35, blkE b3 (Enc.enc x) 174] w ∧ roleErrs x.tag r ((ats.take (need x.tag)).drop k) k = roleErrs x.tag r (ats.take (need x.tag)) 0 ∧ k ≤ (ats.take (need x.tag)).length ∧ q = (ats.take (need x.tag)).length - k) ((ats.take (need x.tag)).length) ?_ ?_
  ·
   exact ⟨0, ⟨rfl, rfl, rfl, rfl, rfl, trivial⟩, hS, by rw [List.drop_zero], Nat.zero_le _, rfl⟩
  ·
   rintro q f w ⟨k, hfit, hS, hinv, hk0, hm⟩
   refine WC.fits _ hfit (fun g => ?_)
   clear hfit
   refine WC.seq (fun K8 hK8 => ?_)
   refine WC.region ?_
   refine WL.op rfl (opW.lss rfl rfl ?_)
   refine WL.nil ?_
   refine thenQ_n (hK8 _ _ ?_)
   refine WC.seq (fun K9 hK9 => ?_)
   refine WC.cond _ rfl (fun hc1 => ?_) (fun hc1 => ?_)
   ·
    have hr1 := hc1
    try simp only [sq1,sq2,sq3,sq4,sq5,sq6,sq7,sq8,sq9,sq0] at hc1
    have hkl : k < (ats.take (need x.tag)).length := by omega
    have hmem : (ats.take (need x.tag))[k] ∈ ats := List.mem_of_mem_take (List.getElem_mem hkl)
    have hkr := lacks_no hl2 hmem
    refine WC.skip ?_
    refine thenQ_n (hK9 _ _ ?_)
    refine WC.seq (fun K10 hK10 => ?_)
    refine WC.block ?_
    refine WC.seq (fun K11 hK11 => ?_)
    refine WC.region ?_
    refine WL.op rfl (opW.moveI rfl ?_)
    refine WL.op rfl (opW.idxV rfl ((hcut.bel hS.old)) rfl (by omega) ?_)
    refine WL.op rfl (opW.loadV rfl (((hcut.bel hS.old).isPt hkl).ld rfl) ?_)
    refine WL.op rfl (opW.assignI rfl ?_)
    refine WL.op rfl (opW.assignI rfl ?_)
    refine WL.nil ?_
    refine thenQ_n (hK11 _ _ ?_)
    refine WC.block ?_
    refine WC.seq (fun K12 hK12 => ?_)
    refine WC.region ?_
    refine WL.op rfl (opW.loadV rfl (hS.ld1 (by repeat constructor) rfl) ?_)
    refine WL.op rfl (opW.moveI rfl ?_)
    refine WL.op rfl (opW.idxV rfl ((hr.bel hS.old)) rfl (by omega) ?_)
    refine WL.op rfl (opW.fieldAddr rfl ((hr.bel hS.old).isP hkr) ?_)
    refine WL.op rfl (opW.loadV rfl (Ld.pt1 ((hr.bel hS.old).isPt hkr) 32 (Role.at_signs _)) ?_)
    refine WL.op rfl (opW.not rfl ?_)
    refine WL.op rfl (opW.moveB rfl ?_)
    refine WL.gd _ 38 _ rfl rfl rfl rfl (fun hg39 => opW.fieldAddrB rfl ⟨rfl, Bel.refl _⟩) (fun w hw => ?_)
    replace hS := hS.bel hw
    refine WL.gd _ 38 _ rfl rfl rfl rfl (fun hg40 => opW.loadV (by first | exact gv_of rfl hg40 | rfl) (hS.ld1 (by repeat constructor) (Ask.at_tag _)) ⟨rfl, Bel.refl _⟩) (fun w hw => ?_)
    replace hS := hS.bel hw
    refine WL.gd _ 38 _ rfl rfl rfl rfl (fun hg41 => opW.eql (by first | exact gv_of rfl hg41 | rfl) rfl ⟨rfl, Bel.refl _⟩) (fun w hw => ?_)
    replace hS := hS.bel hw
    refine WL.gd _ 38 _ rfl rfl rfl rfl (fun hg42 => opW.moveB (by first | exact gv_of rfl hg42 | rfl) ⟨rfl, Bel.refl _⟩) (fun w hw => ?_)
    replace hS := hS.bel hw
    refine WL.gd2 _ _ 42 _ rfl rfl rfl rfl (fun hg43 => opW.moveI rfl ⟨rfl, Bel.refl _⟩) (fun w hw => ?_)
    replace hS := hS.bel hw
    refine WL.gd2 _ _ 42 _ rfl rfl rfl rfl (fun hg44 => opW.gtr (by first | exact gv_of rfl hg44 | rfl) rfl ⟨rfl, Bel.refl _⟩) (fun w hw => ?_)
    replace hS := hS.bel hw
    refine WL.gd _ 38 _ rfl rfl rfl rfl (fun hg45 => opW.pickAnd (by first | exact gv_of rfl hg45 | rfl) (by first | exact gv_and rfl hg45 | rfl) rfl ⟨rfl, Bel.refl _⟩) (fun w hw => ?_)
    replace hS := hS.bel hw
    refine WL.gd _ 38 _ rfl rfl rfl rfl (fun hg46 => opW.not (by first | exact gv_of rfl hg46 | rfl) ⟨rfl, Bel.refl _⟩) (fun w hw => ?_)
    replace hS := hS.bel hw
    refine WL.op rfl (opW.pickAnd rfl (by first | rfl) rfl ?_)
    refine WL.op rfl (opW.assignB rfl ?_)
    refine WL.nil ?_
    refine thenQ_n (hK12 _ _ ?_)
    refine WC.cond _ rfl (fun hc2 => ?_) (fun hc2 => ?_)
    ·
     have hr2 := hc2
     try simp only [sq1,sq2,sq3,sq4,sq5,sq6,sq7,sq8,sq9,sq0] at hc2
     refine WC.seq (fun K13 hK13 => ?_)
     refine WC.region ?_
     refine WL.op rfl (opW.assignI rfl ?_)
     refine WL.nil ?_
     refine thenQ_n (hK13 _ _ ?_)
     refine WC.ret ?_
     refine blockQ_r ?_
     refine blockQ_r ?_
     refine thenQ_r ?_
     refine thenQ_r ?_
     refine blockQ_r ?_
     refine thenQ_r ?_
     refine bodyQ_ret (.tmpI rfl .nil) ?_
     refine ⟨congrArg (Value.int .i64) ?_, hS.old⟩
     rw [htk, ← hinv, roleErrs_hit hkl (roleErr_s hkr hr2) (by decide)]
    ·
     have hr2 := hc2
     try simp only [sq1,sq2,sq3,sq4,sq5,sq6,sq7,sq8,sq9,sq0] at hc2
     refine WC.seq (fun K14 hK14 => ?_)
     refine WC.region ?_
     refine WL.op rfl (opW.loadV rfl (hS.ld1 (by repeat constructor) rfl) ?_)
     refine WL.op rfl (opW.moveI rfl ?_)
     refine WL.op rfl (opW.idxV rfl ((hr.bel hS.old)) rfl (by omega) ?_)
     refine WL.op rfl (opW.fieldAddr rfl ((hr.bel hS.old).isP hkr) ?_)
     refine WL.op rfl (opW.loadV rfl (Ld.pt1 ((hr.bel hS.old).isPt hkr) 33 (Role.at_writes _)) ?_)
     refine WL.op rfl (opW.not rfl ?_)
     refine WL.op rfl (opW.assignB rfl ?_)
     refine WL.nil ?_
     refine thenQ_n (hK14 _ _ ?_)
     refine WC.cond _ rfl (fun hc3 => ?_) (fun hc3 => ?_)
     ·
      have hr3 := hc3
      try simp only [sq1,sq2,sq3,sq4,sq5,sq6,sq7,sq8,sq9,sq0] at hc3
      refine WC.seq (fun K15 hK15 => ?_)
      refine WC.region ?_
      refine WL.op rfl (opW.assignI rfl ?_)
      refine WL.nil ?_
      refine thenQ_n (hK15 _ _ ?_)
      refine WC.ret ?_
      refine blockQ_r ?_
      refine blockQ_r ?_
      refine thenQ_r ?_
      refine thenQ_r ?_
      refine blockQ_r ?_
      refine thenQ_r ?_
      refine bodyQ_ret (.tmpI rfl .nil) ?_
      refine ⟨congrArg (Value.int .i64) ?_, hS.old⟩
      rw [htk, ← hinv, roleErrs_hit hkl (roleErr_w hkr hr2 hr3) (by decide)]
     ·
      have hr3 := hc3
      try simp only [sq1,sq2,sq3,sq4,sq5,sq6,sq7,sq8,sq9,sq0] at hc3
      refine WC.skip ?_
      refine blockQ_n ?_
      refine blockQ_n ?_
      refine thenQ_n (hK10 _ _ ?_)
      refine WC.region ?_
      refine WL.op rfl (opW.add rfl rfl (wrap_i64 (by omega)) ?_)
      refine WL.op rfl (opW.moveI rfl ?_)
      refine WL.nil ?_
      refine thenQ_n ?_
      rw [roleErrs_go hkl (roleErr_0 hkr hr2 hr3)] at hinv
      exact ⟨(ats.take (need x.tag)).length - (k + 1), by omega, k + 1, ⟨rfl, rfl, rfl, rfl, congrArg (Value.int .i64) (by omega), trivial⟩, hS, hinv, by omega, rfl⟩
   ·
    have hr1 := hc1
    try simp only [sq1,sq2,sq3,sq4,sq5,sq6,sq7,sq8,sq9,sq0] at hc1
    refine WC.exit ?_
    refine thenQ_e ?_
    refine thenQ_e ?_
    refine blockQ_hit ?_
    refine thenQ_n (hK6 _ _ ?_)
    refine WC.seq (fun K16 hK16 => ?_)
    refine WC.region ?_
    refine WL.op rfl (opW.assignI rfl ?_)
    refine WL.nil ?_
    refine thenQ_n (hK16 _ _ ?_)
    refine WC.ret ?_
    refine bodyQ_ret (.tmpI rfl .nil) ?_
    refine ⟨congrArg (Value.int .i64) ?_, hS.old⟩
    rw [htk, ← hinv, List.drop_of_length_le (by omega)]; rfl

def sysK : Key := vz 32
def az : Account := ⟨0, vz 32, 0⟩
def plainB (a : Account) : Bool := decide (a.owner = sysK) && decide ((a.space : Int) = 0)
theorem ptrAdd0 (v : Value) (i s : Nat) : ptrAdd (elemP v i s) 0 = elemP v i s := by
 unfold elemP
 split <;> simp [ptrAdd, undef]
def mkE (x : Ask) (A B : Account) : Int := if (!decide (B = az)) = true then 12 else if (!plainB A) = true then 16 else if (1048576 : Int) < (x.space : Int) then 3 else if (A.coins : Int) < (x.coins : Int) then 17 else 0
def asE (A : Account) : Int := if (!decide (A.owner = sysK)) = true then 16 else 0
def mvE (x : Ask) (A B : Account) (same : Bool) : Int := if (!plainB A) = true then 16 else if (A.coins : Int) < (x.coins : Int) then 17 else if same = true then 0 else if ((18446744073709551615 - x.coins : Nat) : Int) < (B.coins : Int) then 18 else 0
def alE (x : Ask) (A : Account) : Int := if (!plainB A) = true then 12 else if (1048576 : Int) < (x.space : Int) then 3 else 0
def mkL (x : Ask) (l : List Account) (a b : Nat) (A : Account) : List Account := (l.set a { A with coins := A.coins - x.coins }).set b ⟨x.coins, x.owner, x.space⟩
def mvL (x : Ask) (l : List Account) (a b : Nat) (A B : Account) : List Account := if a = b then l else (l.set a { A with coins := A.coins - x.coins }).set b { B with coins := B.coins + x.coins }
def okW (a : Account) : Prop := a.coins < 18446744073709551616 ∧ a.space < 18446744073709551616
theorem sub_max (n : Nat) (h : n < 18446744073709551616) : IntKind.u64.wrap (18446744073709551615 - (n : Int)) = ((18446744073709551615 - n : Nat) : Int) := by rw [IntKind.wrap_u64]; omega

theorem sys_ok (w0 : World) : Ret Tryz.prog 42 #[] w0 (fun u w' => u = .agg (Enc.enc sysK) ∧ Bel w0 w') := by
 refine Ret.enter (args := []) Tryz.func42 rfl Tryz.ntmps42 Tryz.results42 rfl ?_
 have hS := St.start w0
 refine WC.seq (fun K1 hK1 => ?_)
 refine WC.region ?_
 refine WL.op rfl (opW.allocA hS ?_)
 intro b0 w _ hS
 refine WL.nil ?_
 refine thenQ_n (hK1 _ _ ?_)
 refine WC.seq (fun K2 hK2 => ?_)
 refine WC.region ?_
 refine WL.op rfl (opW.buildVec (k := sysK) (by first | rfl | (simp only [sysK, az, enc_vset, enc_vz]; rfl)) (by intro p hp; first | (exfalso; simp at hp; done) | (simp only [List.map_cons, List.map_nil, List.mem_cons, List.not_mem_nil, or_false] at hp; rcases hp with rfl | rfl | rfl | rfl <;> exact ⟨by simp, rfl⟩)) ?_)
 refine WL.op0 (opW.storeE hS rfl rfl (by repeat constructor) (by first | rfl | exact Enc.size_eq _) ?_)
 intro w hS; replace hS := hS _ (by repeat constructor)
 refine WL.nil ?_
 refine thenQ_n (hK2 _ _ ?_)
 refine WC.ret ?_
 refine bodyQ_ret (.cell (hS.ldA (by repeat constructor) (Enc.size_eq sysK)) .nil) ?_
 exact ⟨rfl, hS.old⟩

theorem plain_ok (w0 : World) (a : Account) : Ret Tryz.prog 100 #[.agg (Enc.enc a)] w0 (fun u w' => u = .bool (plainB a) ∧ Bel w0 w') := by
 refine Ret.enter (args := [.agg (Enc.enc a)]) Tryz.func100 rfl Tryz.ntmps100 Tryz.results100 rfl ?_
 have hS := St.start w0
 refine WC.seq (fun K1 hK1 => ?_)
 refine WC.region ?_
 refine WL.op rfl (opW.boxA hS rfl ?_)
 intro b1 w _ hS
 refine WL.op rfl (opW.assignB rfl ?_)
 refine WL.nil ?_
 refine thenQ_n (hK1 _ _ ?_)
 refine WC.seq (fun K2 hK2 => ?_)
 refine WC.draw 10 (.look 0 (.look 1 (.one 2 (.look 3 (.look 4 (.look 5 (.look 6 (.look 7 (.look 8 (.look 9 .nil)))))))))) (by kernel_rfl) (fun _ _ _ h => h) (fun w1 hw1 => ?_)
 replace hS := hS.bel hw1
 have hS1 := hS
 have hT := St.start w1
 refine ML.look rfl rfl rfl (fun w hw => (by have hS := hS1.bel hw; exact opW.fieldAddrB rfl ⟨rfl, rfl⟩)) ?_
 refine ML.look rfl rfl rfl (fun w hw => (by have hS := hS1.bel hw; exact opW.loadV rfl (hS.ldF (cs := Enc.enc a) (o := 1) (by repeat constructor) (Account.ex_owner _) (by rw [Enc.size_eq]; decide)) ⟨rfl, rfl⟩)) ?_
 refine ML.one rfl rfl rfl (opW.call (sys_ok _) rfl ?_)
 rintro _ w ⟨rfl, hw⟩; replace hT := hT.bel hw
 refine ⟨hT.old, ?_⟩
 have hS := hS1.merge hT
 try simp only [List.cons_append, List.nil_append] at hS
 refine ML.look rfl rfl rfl (fun w hw => (by have hS := hS1.bel hw; exact opW.eqlE rfl rfl ⟨rfl, rfl⟩)) ?_
 refine ML.look rfl rfl rfl (fun w hw => (by have hS := hS1.bel hw; exact opW.moveB rfl ⟨rfl, rfl⟩)) ?_
 refine ML.lookG  _ 7 rfl rfl rfl rfl rfl rfl (fun hg8 w hw => (by have hS := hS1.bel hw; exact opW.fieldAddrB rfl ⟨rfl, rfl⟩)) ?_
 refine ML.lookG  _ 7 rfl rfl rfl rfl rfl rfl (fun hg9 w hw => (by have hS := hS1.bel hw; exact opW.loadV (by first | exact gv_of rfl hg9 | rfl) (hS.ld1 (by repeat constructor) (Account.at_space _)) ⟨rfl, rfl⟩)) ?_
 refine ML.lookG  _ 7 rfl rfl rfl rfl rfl rfl (fun hg10 w hw => (by have hS := hS1.bel hw; exact opW.eql (by first | exact gv_of rfl hg10 | rfl) rfl ⟨rfl, rfl⟩)) ?_
 refine ML.look rfl rfl rfl (fun w hw => (by have hS := hS1.bel hw; exact opW.pickAnd rfl (by first | rfl) rfl ⟨rfl, rfl⟩)) ?_
 refine ML.look rfl rfl rfl (fun w hw => (by have hS := hS1.bel hw; exact opW.assignB rfl ⟨rfl, rfl⟩)) ?_
 refine ML.nil ?_
 refine thenQ_n (hK2 _ _ ?_)
 refine WC.ret ?_
 refine bodyQ_ret (.tmpB rfl .nil) ?_
 exact ⟨rfl, hS.old⟩

theorem make_ok (wb w0 : World) (S : List Ent) (x : Ask) (pr : PairS) (ov : Value) (out : List Account) (a b : Nat) (ha : a < out.length) (hb : b < out.length) (h1 : Value.pointer pr.first = elemP ov a (Enc.sz Account)) (h2 : Value.pointer pr.second = elemP ov b (Enc.sz Account)) (hxw : x.coins < 18446744073709551616 ∧ x.space < 18446744073709551616) (hAw : okW out[a]) (hBw : okW out[b]) (hS0 : St wb (ownE ov 69 out :: S) w0) : Ret Tryz.prog 94 #[.agg (Enc.enc x), .agg (Enc.enc pr)] w0 (fun u w' => ∃ out' : List Account, u = .int .i64 (mkE x out[a] out[b]) ∧ (mkE x out[a] out[b] = 0 → out' = mkL x out a b out[a]) ∧ St wb (ownE ov 69 out' :: S) w') := by
 refine Ret.enter (args := [.agg (Enc.enc x), .agg (Enc.enc pr)]) Tryz.func94 rfl Tryz.ntmps94 Tryz.results94 rfl ?_
 have hS := St.start w0
 replace hS := hS0
 refine WC.seq (fun K1 hK1 => ?_)
 refine WC.region ?_
 refine WL.op rfl (opW.boxA hS rfl ?_)
 intro b2 w _ hS
 refine WL.op rfl (opW.boxA hS rfl ?_)
 intro b3 w _ hS
 refine WL.op rfl (opW.assignI rfl ?_)
 refine WL.nil ?_
 refine thenQ_n (hK1 _ _ ?_)
 refine WC.seq (fun K2 hK2 => ?_)
 refine WC.block ?_
 refine WC.seq (fun K3 hK3 => ?_)
 refine WC.region ?_
 refine WL.op rfl (opW.fieldAddrB rfl ?_)
 refine WL.op rfl (opW.loadV rfl (hS.ld1 (by repeat constructor) ((PairS.at_second _).trans (congrArg some h2))) ?_)
 refine WL.op rfl (opW.nilCheck rfl ((hS.sl (v := ov) (xs := out) (by repeat constructor)).isP hb) ?_)
 refine WL.op rfl (opW.loadV rfl (((hS.sl (v := ov) (xs := out) (by repeat constructor)).isPt hb).ldA (Enc.size_eq out[b])) ?_)
 refine WL.op rfl (opW.buildE (r := ((az : Account) : Account)) (ps := Account.parts ((az : Account) : Account)) (Account.enc_eq _) (by first | (simp only [sysK, az, enc_vset, enc_vz, Account.enc_eq, Account.parts, Role.enc_eq, Role.parts, Instr.enc_eq, Instr.parts, Ask.enc_eq, Ask.parts, Cut.enc_eq, Cut.parts, PairS.enc_eq, PairS.parts, RAsk.enc_eq, RAsk.parts, Header.enc_eq, Header.parts, Lookup.enc_eq, Lookup.parts, Message.enc_eq, Message.parts, Tx.enc_eq, Tx.parts, Budget.enc_eq, Budget.parts, Ready.enc_eq, Ready.parts, Holding.enc_eq, Holding.parts, Outcome.enc_eq, Outcome.parts, Running.enc_eq, Running.parts]; rfl) | rfl) (by (repeat' (first | exact trivial | refine And.intro ?_ ?_)) <;> first | rfl | exact Enc.size_eq _ | (simp; done)) ?_)
 refine WL.op rfl (opW.neqE rfl rfl ?_)
 refine WL.op rfl (opW.assignB rfl ?_)
 refine WL.nil ?_
 refine thenQ_n (hK3 _ _ ?_)
 refine WC.cond _ rfl (fun hc0 => ?_) (fun hc0 => ?_)
 ·
  have hr0 := hc0
  try simp only [sq1,sq2,sq3,sq4,sq5,sq6,sq7,sq8,sq9,sq0] at hc0
  refine WC.seq (fun K4 hK4 => ?_)
  refine WC.region ?_
  refine WL.op rfl (opW.assignI rfl ?_)
  refine WL.nil ?_
  refine thenQ_n (hK4 _ _ ?_)
  refine WC.ret ?_
  refine blockQ_r ?_
  refine thenQ_r ?_
  refine bodyQ_ret (.tmpI rfl .nil) ?_
  have he : mkE x out[a] out[b] = 12 := by unfold mkE; rw [if_pos hr0]
  rw [he]
  exact ⟨out, rfl, fun h => absurd h (by decide), hS.drop1.drop1⟩
 ·
  have hr0 := hc0
  try simp only [sq1,sq2,sq3,sq4,sq5,sq6,sq7,sq8,sq9,sq0] at hc0
  refine WC.seq (fun K5 hK5 => ?_)
  refine WC.region ?_
  refine WL.op rfl (opW.fieldAddrB rfl ?_)
  refine WL.op rfl (opW.loadV rfl (hS.ld1 (by repeat constructor) ((PairS.at_first _).trans (congrArg some h1))) ?_)
  refine WL.op rfl (opW.nilCheck rfl ((hS.sl (v := ov) (xs := out) (by repeat constructor)).isP ha) ?_)
  refine WL.op rfl (opW.loadV rfl (((hS.sl (v := ov) (xs := out) (by repeat constructor)).isPt ha).ldA (Enc.size_eq out[a])) ?_)
  refine WL.op rfl (opW.call (plain_ok _ out[a]) rfl ?_)
  rintro _ w ⟨rfl, hw⟩; replace hS := hS.bel hw
  refine WL.op rfl (opW.not rfl ?_)
  refine WL.op rfl (opW.assignB rfl ?_)
  refine WL.nil ?_
  refine thenQ_n (hK5 _ _ ?_)
  refine WC.cond _ rfl (fun hc1 => ?_) (fun hc1 => ?_)
  ·
   have hr1 := hc1
   try simp only [sq1,sq2,sq3,sq4,sq5,sq6,sq7,sq8,sq9,sq0] at hc1
   refine WC.seq (fun K6 hK6 => ?_)
   refine WC.region ?_
   refine WL.op rfl (opW.assignI rfl ?_)
   refine WL.nil ?_
   refine thenQ_n (hK6 _ _ ?_)
   refine WC.ret ?_
   refine blockQ_r ?_
   refine thenQ_r ?_
   refine bodyQ_ret (.tmpI rfl .nil) ?_
   have he : mkE x out[a] out[b] = 16 := by unfold mkE; rw [if_neg (by rw [hr0]; decide), if_pos hr1]
   rw [he]
   exact ⟨out, rfl, fun h => absurd h (by decide), hS.drop1.drop1⟩
  ·
   have hr1 := hc1
   try simp only [sq1,sq2,sq3,sq4,sq5,sq6,sq7,sq8,sq9,sq0] at hc1
   refine WC.seq (fun K7 hK7 => ?_)
   refine WC.region ?_
   refine WL.op rfl (opW.fieldAddrB rfl ?_)
   refine WL.op rfl (opW.loadV rfl (hS.ld1 (by repeat constructor) (Ask.at_space _)) ?_)
   refine WL.op rfl (opW.gtr rfl rfl ?_)
   refine WL.op rfl (opW.assignB rfl ?_)
   refine WL.nil ?_
   refine thenQ_n (hK7 _ _ ?_)
   refine WC.cond _ rfl (fun hc2 => ?_) (fun hc2 => ?_)
   ·
    have hr2 := hc2
    try simp only [sq1,sq2,sq3,sq4,sq5,sq6,sq7,sq8,sq9,sq0] at hc2
    refine WC.seq (fun K8 hK8 => ?_)
    refine WC.region ?_
    refine WL.op rfl (opW.assignI rfl ?_)
    refine WL.nil ?_
    refine thenQ_n (hK8 _ _ ?_)
    refine WC.ret ?_
    refine blockQ_r ?_
    refine thenQ_r ?_
    refine bodyQ_ret (.tmpI rfl .nil) ?_
    have he : mkE x out[a] out[b] = 3 := by unfold mkE; rw [if_neg (by rw [hr0]; decide), if_neg (by rw [hr1]; decide), if_pos hc2]
    rw [he]
    exact ⟨out, rfl, fun h => absurd h (by decide), hS.drop1.drop1⟩
   ·
    have hr2 := hc2
    try simp only [sq1,sq2,sq3,sq4,sq5,sq6,sq7,sq8,sq9,sq0] at hc2
    refine WC.seq (fun K9 hK9 => ?_)
    refine WC.draw 9 (.look 0 (.look 1 (.look 2 (.look 3 (.look 4 (.look 5 (.look 6 (.look 7 (.look 8 .nil))))))))) (by kernel_rfl) (fun _ _ _ h => h) (fun w1 hw1 => ?_)
    replace hS := hS.bel hw1
    have hS1 := hS
    have hT := St.start w1
    refine ML.look rfl rfl rfl (fun w hw => (by have hS := hS1.bel hw; exact opW.fieldAddrB rfl ⟨rfl, rfl⟩)) ?_
    refine ML.look rfl rfl rfl (fun w hw => (by have hS := hS1.bel hw; exact opW.loadV rfl (hS.ld1 (by repeat constructor) ((PairS.at_first _).trans (congrArg some h1))) ⟨rfl, rfl⟩)) ?_
    refine ML.look rfl rfl rfl (fun w hw => (by have hS := hS1.bel hw; exact opW.nilCheck rfl ((hS.sl (v := ov) (xs := out) (by repeat constructor)).isP ha) ⟨rfl, rfl⟩)) ?_
    refine ML.look rfl rfl rfl (fun w hw => (by have hS := hS1.bel hw; exact opW.fieldAddr rfl ((hS.sl (v := ov) (xs := out) (by repeat constructor)).isP ha) ⟨rfl, rfl⟩)) ?_
    refine ML.look rfl rfl rfl (fun w hw => (by have hS := hS1.bel hw; exact opW.loadV rfl (Ld.pt1 ((hS.sl (v := ov) (xs := out) (by repeat constructor)).isPt ha) 0 (Account.at_coins _)) ⟨rfl, rfl⟩)) ?_
    refine ML.look rfl rfl rfl (fun w hw => (by have hS := hS1.bel hw; exact opW.fieldAddrB rfl ⟨rfl, rfl⟩)) ?_
    refine ML.look rfl rfl rfl (fun w hw => (by have hS := hS1.bel hw; exact opW.loadV rfl (hS.ld1 (by repeat constructor) (Ask.at_coins _)) ⟨rfl, rfl⟩)) ?_
    refine ML.look rfl rfl rfl (fun w hw => (by have hS := hS1.bel hw; exact opW.lss rfl rfl ⟨rfl, rfl⟩)) ?_
    refine ML.look rfl rfl rfl (fun w hw => (by have hS := hS1.bel hw; exact opW.assignB rfl ⟨rfl, rfl⟩)) ?_
    refine ML.nil ?_
    refine thenQ_n (hK9 _ _ ?_)
    refine WC.cond _ rfl (fun hc3 => ?_) (fun hc3 => ?_)
    ·
     have hr3 := hc3
     try simp only [sq1,sq2,sq3,sq4,sq5,sq6,sq7,sq8,sq9,sq0] at hc3
     refine WC.seq (fun K10 hK10 => ?_)
     refine WC.region ?_
     refine WL.op rfl (opW.assignI rfl ?_)
     refine WL.nil ?_
     refine thenQ_n (hK10 _ _ ?_)
     refine WC.ret ?_
     refine blockQ_r ?_
     refine thenQ_r ?_
     refine bodyQ_ret (.tmpI rfl .nil) ?_
     have he : mkE x out[a] out[b] = 17 := by unfold mkE; rw [if_neg (by rw [hr0]; decide), if_neg (by rw [hr1]; decide), if_neg (by omega), if_pos hc3]
     rw [he]
     exact ⟨out, rfl, fun h => absurd h (by decide), hS.drop1.drop1⟩
    ·
     have hr3 := hc3
     try simp only [sq1,sq2,sq3,sq4,sq5,sq6,sq7,sq8,sq9,sq0] at hc3
     refine WC.skip ?_
     refine blockQ_n ?_
     refine thenQ_n (hK2 _ _ ?_)
     refine WC.seq (fun K11 hK11 => ?_)
     refine WC.draw 10 (.look 0 (.look 1 (.look 2 (.look 3 (.look 4 (.look 5 (.look 6 (.look 7 (.look 8 (.look 9 (.one 10 .nil))))))))))) (by kernel_rfl) (fun _ _ _ h => h) (fun w1 hw1 => ?_)
     replace hS := hS.bel hw1
     have hS1 := hS
     have hT := St.start w1
     refine ML.look rfl rfl rfl (fun w hw => (by have hS := hS1.bel hw; exact opW.fieldAddrB rfl ⟨rfl, rfl⟩)) ?_
     refine ML.look rfl rfl rfl (fun w hw => (by have hS := hS1.bel hw; exact opW.loadV rfl (hS.ld1 (by repeat constructor) ((PairS.at_first _).trans (congrArg some h1))) ⟨rfl, rfl⟩)) ?_
     refine ML.look rfl rfl rfl (fun w hw => (by have hS := hS1.bel hw; exact opW.nilCheck rfl ((hS.sl (v := ov) (xs := out) (by repeat constructor)).isP ha) ⟨rfl, rfl⟩)) ?_
     refine ML.look rfl rfl rfl (fun w hw => (by have hS := hS1.bel hw; exact opW.fieldAddr rfl ((hS.sl (v := ov) (xs := out) (by repeat constructor)).isP ha) ⟨rfl, rfl⟩)) ?_
     refine ML.look rfl rfl rfl (fun w hw => (by have hS := hS1.bel hw; exact opW.loadV rfl (Ld.pt1 ((hS.sl (v := ov) (xs := out) (by repeat constructor)).isPt ha) 0 (Account.at_coins _)) ⟨rfl, rfl⟩)) ?_
     refine ML.look rfl rfl rfl (fun w hw => (by have hS := hS1.bel hw; exact opW.fieldAddrB rfl ⟨rfl, rfl⟩)) ?_
     refine ML.look rfl rfl rfl (fun w hw => (by have hS := hS1.bel hw; exact opW.loadV rfl (hS.ld1 (by repeat constructor) (Ask.at_coins _)) ⟨rfl, rfl⟩)) ?_
     refine ML.look rfl rfl rfl (fun w hw => (by have hS := hS1.bel hw; exact opW.sub rfl rfl (nsub (by omega) hAw.1) ⟨rfl, rfl⟩)) ?_
     refine ML.look rfl rfl rfl (fun w hw => (by have hS := hS1.bel hw; exact opW.nilCheck rfl ((hS.sl (v := ov) (xs := out) (by repeat constructor)).isP ha) ⟨rfl, rfl⟩)) ?_
     refine ML.look rfl rfl rfl (fun w hw => (by have hS := hS1.bel hw; exact opW.fieldAddr rfl ((hS.sl (v := ov) (xs := out) (by repeat constructor)).isP ha) ⟨rfl, rfl⟩)) ?_
     refine ML.put0 rfl rfl rfl (opW.storeOwn (v := ov) (u := .int .u64 ((out[a].coins - x.coins : Nat) : Int)) (sz := 1) (xs := out) (i := a) (off := 0) (y' := { out[a] with coins := out[a].coins - x.coins }) hS (by repeat constructor) ha rfl rfl rfl (by decide) (one_int _ _) (Account.set_coins out[a] (out[a].coins - x.coins)) ?_)
     intro w hS; replace hS := hS _ (by repeat constructor)
     refine ML.nil ?_
     refine thenQ_n (hK11 _ _ ?_)
     refine WC.seq (fun K12 hK12 => ?_)
     refine WC.region ?_
     have hb2 : b < (out.set a { out[a] with coins := out[a].coins - x.coins }).length := by simpa using hb
     refine WL.op rfl (opW.fieldAddrB rfl ?_)
     refine WL.op rfl (opW.loadV rfl (hS.ld1 (by repeat constructor) ((PairS.at_second _).trans (congrArg some h2))) ?_)
     refine WL.op rfl (opW.fieldAddrB rfl ?_)
     refine WL.op rfl (opW.loadV rfl (hS.ld1 (by repeat constructor) (Ask.at_coins _)) ?_)
     refine WL.op rfl (opW.fieldAddrB rfl ?_)
     refine WL.op rfl (opW.loadV rfl (hS.ldF (cs := Enc.enc x) (o := 3) (by repeat constructor) (Ask.ex_owner _) (by rw [Enc.size_eq]; decide)) ?_)
     refine WL.op rfl (opW.fieldAddrB rfl ?_)
     refine WL.op rfl (opW.loadV rfl (hS.ld1 (by repeat constructor) (Ask.at_space _)) ?_)
     refine WL.op rfl (opW.buildE (r := ((⟨x.coins, x.owner, x.space⟩ : Account) : Account)) (ps := Account.parts ((⟨x.coins, x.owner, x.space⟩ : Account) : Account)) (Account.enc_eq _) (by first | (simp only [sysK, az, enc_vset, enc_vz, Account.enc_eq, Account.parts, Role.enc_eq, Role.parts, Instr.enc_eq, Instr.parts, Ask.enc_eq, Ask.parts, Cut.enc_eq, Cut.parts, PairS.enc_eq, PairS.parts, RAsk.enc_eq, RAsk.parts, Header.enc_eq, Header.parts, Lookup.enc_eq, Lookup.parts, Message.enc_eq, Message.parts, Tx.enc_eq, Tx.parts, Budget.enc_eq, Budget.parts, Ready.enc_eq, Ready.parts, Holding.enc_eq, Holding.parts, Outcome.enc_eq, Outcome.parts, Running.enc_eq, Running.parts]; rfl) | rfl) (by (repeat' (first | exact trivial | refine And.intro ?_ ?_)) <;> first | rfl | exact Enc.size_eq _ | (simp; done)) ?_)
     refine WL.op rfl (opW.nilCheck rfl ((hS.sl (v := ov) (xs := (out.set a { out[a] with coins := out[a].coins - x.coins })) (by repeat constructor)).isP hb2) ?_)
     refine WL.op0 (opW.storeOwn (v := ov) (u := .agg (Enc.enc (⟨x.coins, x.owner, x.space⟩ : Account))) (sz := 34) (xs := (out.set a { out[a] with coins := out[a].coins - x.coins })) (i := b) (off := 0) (y' := ⟨x.coins, x.owner, x.space⟩) hS (by repeat constructor) hb2 (ptrAdd0 ov b (Enc.sz Account)).symm rfl (Enc.size_eq (α := Account) _) (by decide) (Enc.one (α := Account) _) (spl_all (by rw [show Value.cells (.agg (Enc.enc (⟨x.coins, x.owner, x.space⟩ : Account))) = Enc.enc (⟨x.coins, x.owner, x.space⟩ : Account) from rfl, Enc.size_eq, Enc.size_eq])) ?_)
     intro w hS; replace hS := hS _ (by repeat constructor)
     refine WL.nil ?_
     refine thenQ_n (hK12 _ _ ?_)
     refine WC.seq (fun K13 hK13 => ?_)
     refine WC.region ?_
     refine WL.op rfl (opW.assignI rfl ?_)
     refine WL.nil ?_
     refine thenQ_n (hK13 _ _ ?_)
     refine WC.ret ?_
     refine bodyQ_ret (.tmpI rfl .nil) ?_
     have he : mkE x out[a] out[b] = 0 := by unfold mkE; rw [if_neg (by rw [hr0]; decide), if_neg (by rw [hr1]; decide), if_neg (by omega), if_neg (by omega)]
     rw [he]
     exact ⟨mkL x out a b out[a], rfl, fun _ => rfl, hS.drop1.drop1⟩

theorem assign_ok (wb w0 : World) (S : List Ent) (x : Ask) (pr : PairS) (ov : Value) (out : List Account) (a b : Nat) (ha : a < out.length) (hb : b < out.length) (h1 : Value.pointer pr.first = elemP ov a (Enc.sz Account)) (h2 : Value.pointer pr.second = elemP ov b (Enc.sz Account)) (hxw : x.coins < 18446744073709551616 ∧ x.space < 18446744073709551616) (hAw : okW out[a]) (hBw : okW out[b]) (hS0 : St wb (ownE ov 69 out :: S) w0) : Ret Tryz.prog 95 #[.agg (Enc.enc x), .agg (Enc.enc pr)] w0 (fun u w' => ∃ out' : List Account, u = .int .i64 (asE out[a]) ∧ (asE out[a] = 0 → out' = out.set a { out[a] with owner := x.owner }) ∧ St wb (ownE ov 69 out' :: S) w') := by
 refine Ret.enter (args := [.agg (Enc.enc x), .agg (Enc.enc pr)]) Tryz.func95 rfl Tryz.ntmps95 Tryz.results95 rfl ?_
 have hS := St.start w0
 replace hS := hS0
 refine WC.seq (fun K1 hK1 => ?_)
 refine WC.region ?_
 refine WL.op rfl (opW.boxA hS rfl ?_)
 intro b2 w _ hS
 refine WL.op rfl (opW.boxA hS rfl ?_)
 intro b3 w _ hS
 refine WL.op rfl (opW.assignI rfl ?_)
 refine WL.nil ?_
 refine thenQ_n (hK1 _ _ ?_)
 refine WC.seq (fun K2 hK2 => ?_)
 refine WC.seq (fun K3 hK3 => ?_)
 refine WC.draw 7 (.look 0 (.look 1 (.look 2 (.look 3 (.look 4 (.one 5 (.look 6 .nil))))))) (by kernel_rfl) (fun _ _ _ h => h) (fun w1 hw1 => ?_)
 replace hS := hS.bel hw1
 have hS1 := hS
 have hT := St.start w1
 refine ML.look rfl rfl rfl (fun w hw => (by have hS := hS1.bel hw; exact opW.fieldAddrB rfl ⟨rfl, rfl⟩)) ?_
 refine ML.look rfl rfl rfl (fun w hw => (by have hS := hS1.bel hw; exact opW.loadV rfl (hS.ld1 (by repeat constructor) ((PairS.at_first _).trans (congrArg some h1))) ⟨rfl, rfl⟩)) ?_
 refine ML.look rfl rfl rfl (fun w hw => (by have hS := hS1.bel hw; exact opW.nilCheck rfl ((hS.sl (v := ov) (xs := out) (by repeat constructor)).isP ha) ⟨rfl, rfl⟩)) ?_
 refine ML.look rfl rfl rfl (fun w hw => (by have hS := hS1.bel hw; exact opW.fieldAddr rfl ((hS.sl (v := ov) (xs := out) (by repeat constructor)).isP ha) ⟨rfl, rfl⟩)) ?_
 refine ML.look rfl rfl rfl (fun w hw => (by have hS := hS1.bel hw; exact opW.loadV rfl (Ld.ptA ((hS.sl (v := ov) (xs := out) (by repeat constructor)).isPt ha) 1 (Account.ex_owner _) (by rw [Enc.size_eq]; decide)) ⟨rfl, rfl⟩)) ?_
 refine ML.one rfl rfl rfl (opW.call (sys_ok _) rfl ?_)
 rintro _ w ⟨rfl, hw⟩; replace hT := hT.bel hw
 refine ⟨hT.old, ?_⟩
 have hS := hS1.merge hT
 try simp only [List.cons_append, List.nil_append] at hS
 refine ML.look rfl rfl rfl (fun w hw => (by have hS := hS1.bel hw; exact opW.neqE rfl rfl ⟨rfl, rfl⟩)) ?_
 refine ML.nil ?_
 refine thenQ_n (hK3 _ _ ?_)
 refine WC.cond _ rfl (fun hc0 => ?_) (fun hc0 => ?_)
 ·
  have hr0 := hc0
  try simp only [sq1,sq2,sq3,sq4,sq5,sq6,sq7,sq8,sq9,sq0] at hc0
  refine WC.seq (fun K4 hK4 => ?_)
  refine WC.region ?_
  refine WL.op rfl (opW.assignI rfl ?_)
  refine WL.nil ?_
  refine thenQ_n (hK4 _ _ ?_)
  refine WC.ret ?_
  refine thenQ_r ?_
  refine bodyQ_ret (.tmpI rfl .nil) ?_
  have he : asE out[a] = 16 := by unfold asE; rw [if_pos hr0]
  rw [he]
  exact ⟨out, rfl, fun h => absurd h (by decide), hS.drop1.drop1⟩
 ·
  have hr0 := hc0
  try simp only [sq1,sq2,sq3,sq4,sq5,sq6,sq7,sq8,sq9,sq0] at hc0
  refine WC.skip ?_
  refine thenQ_n (hK2 _ _ ?_)
  refine WC.seq (fun K5 hK5 => ?_)
  refine WC.region ?_
  refine WL.op rfl (opW.fieldAddrB rfl ?_)
  refine WL.op rfl (opW.loadV rfl (hS.ld1 (by repeat constructor) ((PairS.at_first _).trans (congrArg some h1))) ?_)
  refine WL.op rfl (opW.fieldAddrB rfl ?_)
  refine WL.op rfl (opW.loadV rfl (hS.ldF (cs := Enc.enc x) (o := 3) (by repeat constructor) (Ask.ex_owner _) (by rw [Enc.size_eq]; decide)) ?_)
  refine WL.op rfl (opW.nilCheck rfl ((hS.sl (v := ov) (xs := out) (by repeat constructor)).isP ha) ?_)
  refine WL.op rfl (opW.fieldAddr rfl ((hS.sl (v := ov) (xs := out) (by repeat constructor)).isP ha) ?_)
  refine WL.op0 (opW.storeOwn (v := ov) (u := .agg (Enc.enc x.owner)) (sz := 32) (xs := out) (i := a) (off := 1) (y' := { out[a] with owner := x.owner }) hS (by repeat constructor) ha rfl rfl (Enc.size_eq x.owner) (by decide) (Enc.one x.owner) (Account.set_owner out[a] x.owner) ?_)
  intro w hS; replace hS := hS _ (by repeat constructor)
  refine WL.nil ?_
  refine thenQ_n (hK5 _ _ ?_)
  refine WC.seq (fun K6 hK6 => ?_)
  refine WC.region ?_
  refine WL.op rfl (opW.assignI rfl ?_)
  refine WL.nil ?_
  refine thenQ_n (hK6 _ _ ?_)
  refine WC.ret ?_
  refine bodyQ_ret (.tmpI rfl .nil) ?_
  have he : asE out[a] = 0 := by unfold asE; rw [if_neg (by rw [hr0]; decide)]
  rw [he]
  exact ⟨_, rfl, fun _ => rfl, hS.drop1.drop1⟩

theorem allocate_ok (wb w0 : World) (S : List Ent) (x : Ask) (pr : PairS) (ov : Value) (out : List Account) (a b : Nat) (ha : a < out.length) (hb : b < out.length) (h1 : Value.pointer pr.first = elemP ov a (Enc.sz Account)) (h2 : Value.pointer pr.second = elemP ov b (Enc.sz Account)) (hxw : x.coins < 18446744073709551616 ∧ x.space < 18446744073709551616) (hAw : okW out[a]) (hBw : okW out[b]) (hS0 : St wb (ownE ov 69 out :: S) w0) : Ret Tryz.prog 97 #[.agg (Enc.enc x), .agg (Enc.enc pr)] w0 (fun u w' => ∃ out' : List Account, u = .int .i64 (alE x out[a]) ∧ (alE x out[a] = 0 → out' = out.set a { out[a] with space := x.space }) ∧ St wb (ownE ov 69 out' :: S) w') := by
 refine Ret.enter (args := [.agg (Enc.enc x), .agg (Enc.enc pr)]) Tryz.func97 rfl Tryz.ntmps97 Tryz.results97 rfl ?_
 have hS := St.start w0
 replace hS := hS0
 refine WC.seq (fun K1 hK1 => ?_)
 refine WC.region ?_
 refine WL.op rfl (opW.boxA hS rfl ?_)
 intro b2 w _ hS
 refine WL.op rfl (opW.boxA hS rfl ?_)
 intro b3 w _ hS
 refine WL.op rfl (opW.assignI rfl ?_)
 refine WL.nil ?_
 refine thenQ_n (hK1 _ _ ?_)
 refine WC.seq (fun K2 hK2 => ?_)
 refine WC.block ?_
 refine WC.seq (fun K3 hK3 => ?_)
 refine WC.region ?_
 refine WL.op rfl (opW.fieldAddrB rfl ?_)
 refine WL.op rfl (opW.loadV rfl (hS.ld1 (by repeat constructor) ((PairS.at_first _).trans (congrArg some h1))) ?_)
 refine WL.op rfl (opW.nilCheck rfl ((hS.sl (v := ov) (xs := out) (by repeat constructor)).isP ha) ?_)
 refine WL.op rfl (opW.loadV rfl (((hS.sl (v := ov) (xs := out) (by repeat constructor)).isPt ha).ldA (Enc.size_eq out[a])) ?_)
 refine WL.op rfl (opW.call (plain_ok _ out[a]) rfl ?_)
 rintro _ w ⟨rfl, hw⟩; replace hS := hS.bel hw
 refine WL.op rfl (opW.not rfl ?_)
 refine WL.op rfl (opW.assignB rfl ?_)
 refine WL.nil ?_
 refine thenQ_n (hK3 _ _ ?_)
 refine WC.cond _ rfl (fun hc0 => ?_) (fun hc0 => ?_)
 ·
  have hr0 := hc0
  try simp only [sq1,sq2,sq3,sq4,sq5,sq6,sq7,sq8,sq9,sq0] at hc0
  refine WC.seq (fun K4 hK4 => ?_)
  refine WC.region ?_
  refine WL.op rfl (opW.assignI rfl ?_)
  refine WL.nil ?_
  refine thenQ_n (hK4 _ _ ?_)
  refine WC.ret ?_
  refine blockQ_r ?_
  refine thenQ_r ?_
  refine bodyQ_ret (.tmpI rfl .nil) ?_
  have he : alE x out[a] = 12 := by unfold alE; rw [if_pos hr0]
  rw [he]
  exact ⟨out, rfl, fun h => absurd h (by decide), hS.drop1.drop1⟩
 ·
  have hr0 := hc0
  try simp only [sq1,sq2,sq3,sq4,sq5,sq6,sq7,sq8,sq9,sq0] at hc0
  refine WC.seq (fun K5 hK5 => ?_)
  refine WC.region ?_
  refine WL.op rfl (opW.fieldAddrB rfl ?_)
  refine WL.op rfl (opW.loadV rfl (hS.ld1 (by repeat constructor) (Ask.at_space _)) ?_)
  refine WL.op rfl (opW.gtr rfl rfl ?_)
  refine WL.op rfl (opW.assignB rfl ?_)
  refine WL.nil ?_
  refine thenQ_n (hK5 _ _ ?_)
  refine WC.cond _ rfl (fun hc1 => ?_) (fun hc1 => ?_)
  ·
   have hr1 := hc1
   try simp only [sq1,sq2,sq3,sq4,sq5,sq6,sq7,sq8,sq9,sq0] at hc1
   refine WC.seq (fun K6 hK6 => ?_)
   refine WC.region ?_
   refine WL.op rfl (opW.assignI rfl ?_)
   refine WL.nil ?_
   refine thenQ_n (hK6 _ _ ?_)
   refine WC.ret ?_
   refine blockQ_r ?_
   refine thenQ_r ?_
   refine bodyQ_ret (.tmpI rfl .nil) ?_
   have he : alE x out[a] = 3 := by unfold alE; rw [if_neg (by rw [hr0]; decide), if_pos hc1]
   rw [he]
   exact ⟨out, rfl, fun h => absurd h (by decide), hS.drop1.drop1⟩
  ·
   have hr1 := hc1
   try simp only [sq1,sq2,sq3,sq4,sq5,sq6,sq7,sq8,sq9,sq0] at hc1
   refine WC.skip ?_
   refine blockQ_n ?_
   refine thenQ_n (hK2 _ _ ?_)
   refine WC.seq (fun K7 hK7 => ?_)
   refine WC.region ?_
   refine WL.op rfl (opW.fieldAddrB rfl ?_)
   refine WL.op rfl (opW.loadV rfl (hS.ld1 (by repeat constructor) ((PairS.at_first _).trans (congrArg some h1))) ?_)
   refine WL.op rfl (opW.fieldAddrB rfl ?_)
   refine WL.op rfl (opW.loadV rfl (hS.ld1 (by repeat constructor) (Ask.at_space _)) ?_)
   refine WL.op rfl (opW.nilCheck rfl ((hS.sl (v := ov) (xs := out) (by repeat constructor)).isP ha) ?_)
   refine WL.op rfl (opW.fieldAddr rfl ((hS.sl (v := ov) (xs := out) (by repeat constructor)).isP ha) ?_)
   refine WL.op0 (opW.storeOwn (v := ov) (u := .int .u64 ((x.space : Nat) : Int)) (sz := 1) (xs := out) (i := a) (off := 33) (y' := { out[a] with space := x.space }) hS (by repeat constructor) ha rfl rfl rfl (by decide) (one_int _ _) (Account.set_space out[a] (x.space)) ?_)
   intro w hS; replace hS := hS _ (by repeat constructor)
   refine WL.nil ?_
   refine thenQ_n (hK7 _ _ ?_)
   refine WC.seq (fun K8 hK8 => ?_)
   refine WC.region ?_
   refine WL.op rfl (opW.assignI rfl ?_)
   refine WL.nil ?_
   refine thenQ_n (hK8 _ _ ?_)
   refine WC.ret ?_
   refine bodyQ_ret (.tmpI rfl .nil) ?_
   have he : alE x out[a] = 0 := by unfold alE; rw [if_neg (by rw [hr0]; decide), if_neg (by omega)]
   rw [he]
   exact ⟨_, rfl, fun _ => rfl, hS.drop1.drop1⟩

theorem move_ok (wb w0 : World) (S : List Ent) (x : Ask) (pr : PairS) (ov : Value) (out : List Account) (a b : Nat) (ha : a < out.length) (hb : b < out.length) (h1 : Value.pointer pr.first = elemP ov a (Enc.sz Account)) (h2 : Value.pointer pr.second = elemP ov b (Enc.sz Account)) (hxw : x.coins < 18446744073709551616 ∧ x.space < 18446744073709551616) (hAw : okW out[a]) (hBw : okW out[b]) (hS0 : St wb (ownE ov 69 out :: S) w0) : Ret Tryz.prog 96 #[.agg (Enc.enc x), .agg (Enc.enc pr)] w0 (fun u w' => ∃ out' : List Account, u = .int .i64 (mvE x out[a] out[b] (decide (a = b))) ∧ (mvE x out[a] out[b] (decide (a = b)) = 0 → out' = mvL x out a b out[a] out[b]) ∧ St wb (ownE ov 69 out' :: S) w') := by
 refine Ret.enter (args := [.agg (Enc.enc x), .agg (Enc.enc pr)]) Tryz.func96 rfl Tryz.ntmps96 Tryz.results96 rfl ?_
 have hS := St.start w0
 replace hS := hS0
 obtain ⟨g, n, c, hg⟩ : ∃ g n c, ov = .slice (some ⟨g, 0, none⟩) n c := by
  have ho := hS.own (v := ov) (xs := out) .here
  rcases ho with ⟨_, rfl⟩ | ⟨g, cap, cur, h, _⟩
  ·simp at ha
  ·exact ⟨g, _, cap, h⟩
 refine WC.seq (fun K1 hK1 => ?_)
 refine WC.region ?_
 refine WL.op rfl (opW.boxA hS rfl ?_)
 intro b2 w _ hS
 refine WL.op rfl (opW.boxA hS rfl ?_)
 intro b3 w _ hS
 refine WL.op rfl (opW.assignI rfl ?_)
 refine WL.nil ?_
 refine thenQ_n (hK1 _ _ ?_)
 refine WC.seq (fun K2 hK2 => ?_)
 refine WC.block ?_
 refine WC.seq (fun K3 hK3 => ?_)
 refine WC.region ?_
 refine WL.op rfl (opW.fieldAddrB rfl ?_)
 refine WL.op rfl (opW.loadV rfl (hS.ld1 (by repeat constructor) ((PairS.at_first _).trans (congrArg some h1))) ?_)
 refine WL.op rfl (opW.nilCheck rfl ((hS.sl (v := ov) (xs := out) (by repeat constructor)).isP ha) ?_)
 refine WL.op rfl (opW.loadV rfl (((hS.sl (v := ov) (xs := out) (by repeat constructor)).isPt ha).ldA (Enc.size_eq out[a])) ?_)
 refine WL.op rfl (opW.call (plain_ok _ out[a]) rfl ?_)
 rintro _ w ⟨rfl, hw⟩; replace hS := hS.bel hw
 refine WL.op rfl (opW.not rfl ?_)
 refine WL.op rfl (opW.assignB rfl ?_)
 refine WL.nil ?_
 refine thenQ_n (hK3 _ _ ?_)
 refine WC.cond _ rfl (fun hc0 => ?_) (fun hc0 => ?_)
 ·
  have hr0 := hc0
  try simp only [sq1,sq2,sq3,sq4,sq5,sq6,sq7,sq8,sq9,sq0] at hc0
  refine WC.seq (fun K4 hK4 => ?_)
  refine WC.region ?_
  refine WL.op rfl (opW.assignI rfl ?_)
  refine WL.nil ?_
  refine thenQ_n (hK4 _ _ ?_)
  refine WC.ret ?_
  refine blockQ_r ?_
  refine thenQ_r ?_
  refine bodyQ_ret (.tmpI rfl .nil) ?_
  have he : mvE x out[a] out[b] (decide (a = b)) = 16 := by unfold mvE; rw [if_pos hr0]
  rw [he]
  exact ⟨out, rfl, fun h => absurd h (by decide), hS.drop1.drop1⟩
 ·
  have hr0 := hc0
  try simp only [sq1,sq2,sq3,sq4,sq5,sq6,sq7,sq8,sq9,sq0] at hc0
  refine WC.seq (fun K5 hK5 => ?_)
  refine WC.draw 9 (.look 0 (.look 1 (.look 2 (.look 3 (.look 4 (.look 5 (.look 6 (.look 7 (.look 8 .nil))))))))) (by kernel_rfl) (fun _ _ _ h => h) (fun w1 hw1 => ?_)
  replace hS := hS.bel hw1
  have hS1 := hS
  have hT := St.start w1
  refine ML.look rfl rfl rfl (fun w hw => (by have hS := hS1.bel hw; exact opW.fieldAddrB rfl ⟨rfl, rfl⟩)) ?_
  refine ML.look rfl rfl rfl (fun w hw => (by have hS := hS1.bel hw; exact opW.loadV rfl (hS.ld1 (by repeat constructor) ((PairS.at_first _).trans (congrArg some h1))) ⟨rfl, rfl⟩)) ?_
  refine ML.look rfl rfl rfl (fun w hw => (by have hS := hS1.bel hw; exact opW.nilCheck rfl ((hS.sl (v := ov) (xs := out) (by repeat constructor)).isP ha) ⟨rfl, rfl⟩)) ?_
  refine ML.look rfl rfl rfl (fun w hw => (by have hS := hS1.bel hw; exact opW.fieldAddr rfl ((hS.sl (v := ov) (xs := out) (by repeat constructor)).isP ha) ⟨rfl, rfl⟩)) ?_
  refine ML.look rfl rfl rfl (fun w hw => (by have hS := hS1.bel hw; exact opW.loadV rfl (Ld.pt1 ((hS.sl (v := ov) (xs := out) (by repeat constructor)).isPt ha) 0 (Account.at_coins _)) ⟨rfl, rfl⟩)) ?_
  refine ML.look rfl rfl rfl (fun w hw => (by have hS := hS1.bel hw; exact opW.fieldAddrB rfl ⟨rfl, rfl⟩)) ?_
  refine ML.look rfl rfl rfl (fun w hw => (by have hS := hS1.bel hw; exact opW.loadV rfl (hS.ld1 (by repeat constructor) (Ask.at_coins _)) ⟨rfl, rfl⟩)) ?_
  refine ML.look rfl rfl rfl (fun w hw => (by have hS := hS1.bel hw; exact opW.lss rfl rfl ⟨rfl, rfl⟩)) ?_
  refine ML.look rfl rfl rfl (fun w hw => (by have hS := hS1.bel hw; exact opW.assignB rfl ⟨rfl, rfl⟩)) ?_
  refine ML.nil ?_
  refine thenQ_n (hK5 _ _ ?_)
  refine WC.cond _ rfl (fun hc1 => ?_) (fun hc1 => ?_)
  ·
   have hr1 := hc1
   try simp only [sq1,sq2,sq3,sq4,sq5,sq6,sq7,sq8,sq9,sq0] at hc1
   refine WC.seq (fun K6 hK6 => ?_)
   refine WC.region ?_
   refine WL.op rfl (opW.assignI rfl ?_)
   refine WL.nil ?_
   refine thenQ_n (hK6 _ _ ?_)
   refine WC.ret ?_
   refine blockQ_r ?_
   refine thenQ_r ?_
   refine bodyQ_ret (.tmpI rfl .nil) ?_
   have he : mvE x out[a] out[b] (decide (a = b)) = 17 := by unfold mvE; rw [if_neg (by rw [hr0]; decide), if_pos hc1]
   rw [he]
   exact ⟨out, rfl, fun h => absurd h (by decide), hS.drop1.drop1⟩
  ·
   have hr1 := hc1
   try simp only [sq1,sq2,sq3,sq4,sq5,sq6,sq7,sq8,sq9,sq0] at hc1
   refine WC.seq (fun K7 hK7 => ?_)
   refine WC.region ?_
   refine WL.op rfl (opW.fieldAddrB rfl ?_)
   refine WL.op rfl (opW.loadV rfl (hS.ld1 (by repeat constructor) ((PairS.at_first _).trans (congrArg some h1))) ?_)
   refine WL.op rfl (opW.fieldAddrB rfl ?_)
   refine WL.op rfl (opW.loadV rfl (hS.ld1 (by repeat constructor) ((PairS.at_second _).trans (congrArg some h2))) ?_)
   refine WL.op rfl (opW.eqlPP (n := 33) (b := g) (o := 0 + a * 34) (o2 := 0 + b * 34) (by rw [hg]; rfl) (by rw [hg]; rfl) ?_)
   rw [show decide (0 + a * 34 = 0 + b * 34) = decide (a = b) from by rw [Bool.eq_iff_iff]; simp only [decide_eq_true_eq]; omega]
   refine WL.op rfl (opW.assignB rfl ?_)
   refine WL.nil ?_
   refine thenQ_n (hK7 _ _ ?_)
   refine WC.cond _ rfl (fun hc2 => ?_) (fun hc2 => ?_)
   ·
    have hr2 := hc2
    try simp only [sq1,sq2,sq3,sq4,sq5,sq6,sq7,sq8,sq9,sq0] at hc2
    refine WC.seq (fun K8 hK8 => ?_)
    refine WC.region ?_
    refine WL.op rfl (opW.assignI rfl ?_)
    refine WL.nil ?_
    refine thenQ_n (hK8 _ _ ?_)
    refine WC.ret ?_
    refine blockQ_r ?_
    refine thenQ_r ?_
    refine bodyQ_ret (.tmpI rfl .nil) ?_
    have hab : a = b := of_decide_eq_true hr2
    have he : mvE x out[a] out[b] (decide (a = b)) = 0 := by unfold mvE; rw [if_neg (by rw [hr0]; decide), if_neg (by omega), if_pos hr2]
    rw [he]
    exact ⟨out, rfl, fun _ => by unfold mvL; rw [if_pos hab], hS.drop1.drop1⟩
   ·
    have hr2 := hc2
    try simp only [sq1,sq2,sq3,sq4,sq5,sq6,sq7,sq8,sq9,sq0] at hc2
    have hab : a ≠ b := of_decide_eq_false hr2
    refine WC.seq (fun K9 hK9 => ?_)
    refine WC.draw 10 (.look 0 (.look 1 (.look 2 (.look 3 (.look 4 (.look 5 (.look 6 (.look 7 (.look 8 (.look 9 .nil)))))))))) (by kernel_rfl) (fun _ _ _ h => h) (fun w1 hw1 => ?_)
    replace hS := hS.bel hw1
    have hS1 := hS
    have hT := St.start w1
    refine ML.look rfl rfl rfl (fun w hw => (by have hS := hS1.bel hw; exact opW.fieldAddrB rfl ⟨rfl, rfl⟩)) ?_
    refine ML.look rfl rfl rfl (fun w hw => (by have hS := hS1.bel hw; exact opW.loadV rfl (hS.ld1 (by repeat constructor) ((PairS.at_second _).trans (congrArg some h2))) ⟨rfl, rfl⟩)) ?_
    refine ML.look rfl rfl rfl (fun w hw => (by have hS := hS1.bel hw; exact opW.nilCheck rfl ((hS.sl (v := ov) (xs := out) (by repeat constructor)).isP hb) ⟨rfl, rfl⟩)) ?_
    refine ML.look rfl rfl rfl (fun w hw => (by have hS := hS1.bel hw; exact opW.fieldAddr rfl ((hS.sl (v := ov) (xs := out) (by repeat constructor)).isP hb) ⟨rfl, rfl⟩)) ?_
    refine ML.look rfl rfl rfl (fun w hw => (by have hS := hS1.bel hw; exact opW.loadV rfl (Ld.pt1 ((hS.sl (v := ov) (xs := out) (by repeat constructor)).isPt hb) 0 (Account.at_coins _)) ⟨rfl, rfl⟩)) ?_
    refine ML.look rfl rfl rfl (fun w hw => (by have hS := hS1.bel hw; exact opW.fieldAddrB rfl ⟨rfl, rfl⟩)) ?_
    refine ML.look rfl rfl rfl (fun w hw => (by have hS := hS1.bel hw; exact opW.loadV rfl (hS.ld1 (by repeat constructor) (Ask.at_coins _)) ⟨rfl, rfl⟩)) ?_
    refine ML.look rfl rfl rfl (fun w hw => (by have hS := hS1.bel hw; exact opW.sub rfl rfl (sub_max _ hxw.1) ⟨rfl, rfl⟩)) ?_
    refine ML.look rfl rfl rfl (fun w hw => (by have hS := hS1.bel hw; exact opW.gtr rfl rfl ⟨rfl, rfl⟩)) ?_
    refine ML.look rfl rfl rfl (fun w hw => (by have hS := hS1.bel hw; exact opW.assignB rfl ⟨rfl, rfl⟩)) ?_
    refine ML.nil ?_
    refine thenQ_n (hK9 _ _ ?_)
    refine WC.cond _ rfl (fun hc3 => ?_) (fun hc3 => ?_)
    ·
     have hr3 := hc3
     try simp only [sq1,sq2,sq3,sq4,sq5,sq6,sq7,sq8,sq9,sq0] at hc3
     refine WC.seq (fun K10 hK10 => ?_)
     refine WC.region ?_
     refine WL.op rfl (opW.assignI rfl ?_)
     refine WL.nil ?_
     refine thenQ_n (hK10 _ _ ?_)
     refine WC.ret ?_
     refine blockQ_r ?_
     refine thenQ_r ?_
     refine bodyQ_ret (.tmpI rfl .nil) ?_
     have he : mvE x out[a] out[b] (decide (a = b)) = 18 := by unfold mvE; rw [if_neg (by rw [hr0]; decide), if_neg (by omega), if_neg (by rw [hr2]; decide), if_pos hc3]
     rw [he]
     exact ⟨out, rfl, fun h => absurd h (by decide), hS.drop1.drop1⟩
    ·
     have hr3 := hc3
     try simp only [sq1,sq2,sq3,sq4,sq5,sq6,sq7,sq8,sq9,sq0] at hc3
     refine WC.skip ?_
     refine blockQ_n ?_
     refine thenQ_n (hK2 _ _ ?_)
     refine WC.seq (fun K11 hK11 => ?_)
     refine WC.draw 10 (.look 0 (.look 1 (.look 2 (.look 3 (.look 4 (.look 5 (.look 6 (.look 7 (.look 8 (.look 9 (.one 10 .nil))))))))))) (by kernel_rfl) (fun _ _ _ h => h) (fun w1 hw1 => ?_)
     replace hS := hS.bel hw1
     have hS1 := hS
     have hT := St.start w1
     refine ML.look rfl rfl rfl (fun w hw => (by have hS := hS1.bel hw; exact opW.fieldAddrB rfl ⟨rfl, rfl⟩)) ?_
     refine ML.look rfl rfl rfl (fun w hw => (by have hS := hS1.bel hw; exact opW.loadV rfl (hS.ld1 (by repeat constructor) ((PairS.at_first _).trans (congrArg some h1))) ⟨rfl, rfl⟩)) ?_
     refine ML.look rfl rfl rfl (fun w hw => (by have hS := hS1.bel hw; exact opW.nilCheck rfl ((hS.sl (v := ov) (xs := out) (by repeat constructor)).isP ha) ⟨rfl, rfl⟩)) ?_
     refine ML.look rfl rfl rfl (fun w hw => (by have hS := hS1.bel hw; exact opW.fieldAddr rfl ((hS.sl (v := ov) (xs := out) (by repeat constructor)).isP ha) ⟨rfl, rfl⟩)) ?_
     refine ML.look rfl rfl rfl (fun w hw => (by have hS := hS1.bel hw; exact opW.loadV rfl (Ld.pt1 ((hS.sl (v := ov) (xs := out) (by repeat constructor)).isPt ha) 0 (Account.at_coins _)) ⟨rfl, rfl⟩)) ?_
     refine ML.look rfl rfl rfl (fun w hw => (by have hS := hS1.bel hw; exact opW.fieldAddrB rfl ⟨rfl, rfl⟩)) ?_
     refine ML.look rfl rfl rfl (fun w hw => (by have hS := hS1.bel hw; exact opW.loadV rfl (hS.ld1 (by repeat constructor) (Ask.at_coins _)) ⟨rfl, rfl⟩)) ?_
     refine ML.look rfl rfl rfl (fun w hw => (by have hS := hS1.bel hw; exact opW.sub rfl rfl (nsub (by omega) hAw.1) ⟨rfl, rfl⟩)) ?_
     refine ML.look rfl rfl rfl (fun w hw => (by have hS := hS1.bel hw; exact opW.nilCheck rfl ((hS.sl (v := ov) (xs := out) (by repeat constructor)).isP ha) ⟨rfl, rfl⟩)) ?_
     refine ML.look rfl rfl rfl (fun w hw => (by have hS := hS1.bel hw; exact opW.fieldAddr rfl ((hS.sl (v := ov) (xs := out) (by repeat constructor)).isP ha) ⟨rfl, rfl⟩)) ?_
     refine ML.put0 rfl rfl rfl (opW.storeOwn (v := ov) (u := .int .u64 ((out[a].coins - x.coins : Nat) : Int)) (sz := 1) (xs := out) (i := a) (off := 0) (y' := { out[a] with coins := out[a].coins - x.coins }) hS (by repeat constructor) ha rfl rfl rfl (by decide) (one_int _ _) (Account.set_coins out[a] (out[a].coins - x.coins)) ?_)
     intro w hS; replace hS := hS _ (by repeat constructor)
     refine ML.nil ?_
     refine thenQ_n (hK11 _ _ ?_)
     refine WC.seq (fun K12 hK12 => ?_)
     refine WC.draw 10 (.look 0 (.look 1 (.look 2 (.look 3 (.look 4 (.look 5 (.look 6 (.look 7 (.look 8 (.look 9 (.one 10 .nil))))))))))) (by kernel_rfl) (fun _ _ _ h => h) (fun w1 hw1 => ?_)
     replace hS := hS.bel hw1
     have hS1 := hS
     have hT := St.start w1
     have hb2 : b < (out.set a { out[a] with coins := out[a].coins - x.coins }).length := by simpa using hb
     have hgb : (out.set a { out[a] with coins := out[a].coins - x.coins })[b] = out[b] := by rw [List.getElem_set_ne hab]
     refine ML.look rfl rfl rfl (fun w hw => (by have hS := hS1.bel hw; exact opW.fieldAddrB rfl ⟨rfl, rfl⟩)) ?_
     refine ML.look rfl rfl rfl (fun w hw => (by have hS := hS1.bel hw; exact opW.loadV rfl (hS.ld1 (by repeat constructor) ((PairS.at_second _).trans (congrArg some h2))) ⟨rfl, rfl⟩)) ?_
     refine ML.look rfl rfl rfl (fun w hw => (by have hS := hS1.bel hw; exact opW.nilCheck rfl ((hS.sl (v := ov) (xs := (out.set a { out[a] with coins := out[a].coins - x.coins })) (by repeat constructor)).isP hb2) ⟨rfl, rfl⟩)) ?_
     refine ML.look rfl rfl rfl (fun w hw => (by have hS := hS1.bel hw; exact opW.fieldAddr rfl ((hS.sl (v := ov) (xs := (out.set a { out[a] with coins := out[a].coins - x.coins })) (by repeat constructor)).isP hb2) ⟨rfl, rfl⟩)) ?_
     refine ML.look rfl rfl rfl (fun w hw => (by have hS := hS1.bel hw; exact opW.loadV rfl (Ld.pt1 ((hS.sl (v := ov) (xs := (out.set a { out[a] with coins := out[a].coins - x.coins })) (by repeat constructor)).isPt hb2) 0 (by rw [hgb]; exact Account.at_coins _)) ⟨rfl, rfl⟩)) ?_
     refine ML.look rfl rfl rfl (fun w hw => (by have hS := hS1.bel hw; exact opW.fieldAddrB rfl ⟨rfl, rfl⟩)) ?_
     refine ML.look rfl rfl rfl (fun w hw => (by have hS := hS1.bel hw; exact opW.loadV rfl (hS.ld1 (by repeat constructor) (Ask.at_coins _)) ⟨rfl, rfl⟩)) ?_
     refine ML.look rfl rfl rfl (fun w hw => (by have hS := hS1.bel hw; exact opW.add rfl rfl (nadd (by omega)) ⟨rfl, rfl⟩)) ?_
     refine ML.look rfl rfl rfl (fun w hw => (by have hS := hS1.bel hw; exact opW.nilCheck rfl ((hS.sl (v := ov) (xs := (out.set a { out[a] with coins := out[a].coins - x.coins })) (by repeat constructor)).isP hb2) ⟨rfl, rfl⟩)) ?_
     refine ML.look rfl rfl rfl (fun w hw => (by have hS := hS1.bel hw; exact opW.fieldAddr rfl ((hS.sl (v := ov) (xs := (out.set a { out[a] with coins := out[a].coins - x.coins })) (by repeat constructor)).isP hb2) ⟨rfl, rfl⟩)) ?_
     refine ML.put0 rfl rfl rfl (opW.storeOwn (v := ov) (u := .int .u64 ((out[b].coins + x.coins : Nat) : Int)) (sz := 1) (xs := (out.set a { out[a] with coins := out[a].coins - x.coins })) (i := b) (off := 0) (y' := { out[b] with coins := out[b].coins + x.coins }) hS (by repeat constructor) hb2 rfl rfl rfl (by decide) (one_int _ _) (by rw [hgb]; exact Account.set_coins out[b] (out[b].coins + x.coins)) ?_)
     intro w hS; replace hS := hS _ (by repeat constructor)
     refine ML.nil ?_
     refine thenQ_n (hK12 _ _ ?_)
     refine WC.seq (fun K13 hK13 => ?_)
     refine WC.region ?_
     refine WL.op rfl (opW.assignI rfl ?_)
     refine WL.nil ?_
     refine thenQ_n (hK13 _ _ ?_)
     refine WC.ret ?_
     refine bodyQ_ret (.tmpI rfl .nil) ?_
     have he : mvE x out[a] out[b] (decide (a = b)) = 0 := by unfold mvE; rw [if_neg (by rw [hr0]; decide), if_neg (by omega), if_neg (by rw [hr2]; decide), if_neg (by omega)]
     rw [he]
     exact ⟨_, rfl, fun _ => by unfold mvL; rw [if_neg hab], hS.drop1.drop1⟩

end Go.Fer
