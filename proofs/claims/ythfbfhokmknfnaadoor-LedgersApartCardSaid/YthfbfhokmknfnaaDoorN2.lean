/- a run, as the laws ask; what an outcome changes; a transaction -/
import Derived.Test.YthfbfhokmknfnaaDoorL2
import Derived.Test.YthfbfhokmknfnaaDoorK6
set_option linter.all false
namespace Go.Fer
open Go Go.Proofs Go.RowKit

theorem Ld.val {P : Program} {T : TypeId} {w : World} {p v v' : Value} (h : Ld P T w p v) (e : v = v') : Ld P T w p v' := e ▸ h
theorem qs_of {w : World} : ∀ {ins : List Instr}, (∀ e ∈ ins, Instr.okz w e) → ∃ qs : List PI, ins.length = qs.length ∧ ∀ k (h : k < ins.length) (h2 : k < qs.length), InIs w ins[k] qs[k]
 | [], _ => ⟨[], rfl, fun k h => by simp at h⟩
 | x :: ins, h => by
  obtain ⟨qs, h1, h2⟩ := qs_of (ins := ins) (fun e he => h e (List.mem_cons_of_mem _ he))
  obtain ⟨⟨la, a1, _, _⟩, ⟨ld, d1, _, _⟩⟩ := h x List.mem_cons_self
  refine ⟨⟨x.program, la, ld⟩ :: qs, by simp [h1], fun k hk hk2 => ?_⟩
  rcases k with _ | k
  ·exact ⟨rfl, a1, d1⟩
  ·exact h2 k (by simpa using hk) (by simpa using hk2)
def RunIs (R : Ready) (r : List Role) (qs : List PI) (l : List Account) (ins : List Instr) (o : Outcome) (e : Int) (ch : List Holding) : Prop :=
 (e = 1 ∧ badArg r l ins = true ∧ o = oz ∧ ch = []) ∨ (e = 0 ∧ badArg r l ins = false ∧ ∃ s : SlV, o = outF R r qs l s ∧ ch = chgF r (accF R r qs l))
theorem run_any (w0 : World) (R : Ready) (sl : SlV) (l : List Account) (r : List Role) (ins : List Instr) (qs : List PI) (hg : ErrLaid w0) (hl : SlR w0 sl.v l) (hr : SlR w0 R.roles.v r) (hi : SlR w0 R.tx.m.instrs.v ins) (hql : ins.length = qs.length) (hin : ∀ k (h : k < ins.length) (h2 : k < qs.length), InIs w0 ins[k] qs[k]) (hbu : R.budget.units < 18446744073709551616) (hlb : l.length ≤ 100000) (hrb : r.length ≤ 100000) (hlw : ∀ y ∈ l, okW y) :
  Ret Tryd.prog 18 #[.agg (Enc.enc R), sl.v] w0 (fun u w' => ∃ (o : Outcome) (e : Int) (ch : List Holding), u = .tuple #[.agg (Enc.enc o), .int .i64 e] ∧ New w0 w' o.changed.v 66 ch ∧ RunIs R r qs l ins o e ch ∧ Bel w0 w') := by
 refine (run_ok w0 R sl l r ins qs hg hl hr hi hql hin hbu hlb hrb hlw).mono ?_
 rintro u w' (⟨hb, rfl, hw⟩ | ⟨hb, s, rfl, hn, hw⟩)
 ·exact ⟨oz, 1, [], rfl, New.nil _ _ _, .inl ⟨rfl, hb, rfl, rfl⟩, hw⟩
 ·exact ⟨outF R r qs l s, 0, _, rfl, hn, .inr ⟨rfl, hb, s, rfl, rfl⟩, hw⟩
theorem RunIs.bad {R : Ready} {r : List Role} {qs : List PI} {l : List Account} {ins : List Instr} {o : Outcome} {e : Int} {ch : List Holding} (h : RunIs R r qs l ins o e ch) (he : e ≠ 0) : e = 1 ∧ badArg r l ins = true ∧ o = oz ∧ ch = [] := h.resolve_right (fun h => he h.1)
theorem RunIs.good {R : Ready} {r : List Role} {qs : List PI} {l : List Account} {ins : List Instr} {o : Outcome} {e : Int} {ch : List Holding} (h : RunIs R r qs l ins o e ch) (he : e = 0) : badArg r l ins = false ∧ ∃ s : SlV, o = outF R r qs l s ∧ ch = chgF r (accF R r qs l) := (h.resolve_left (fun h => absurd (he.symm.trans h.1) (by decide))).2
theorem badArg_no {r : List Role} {l : List Account} {ins : List Instr} (h : badArg r l ins = false) : l.length = r.length ∧ ∀ c ∈ ins, c.program.toNat < r.length := by
 unfold badArg at h
 obtain ⟨h1, h2⟩ := Bool.or_eq_false_iff.1 h
 refine ⟨by simpa using h1, fun c hc => ?_⟩
 have h3 := List.any_eq_false.1 h2 c hc
 simp only [decide_eq_true_eq] at h3
 omega
theorem stepF_units {r : List Role} {bu : Nat} {bad : Int} {i : Nat} {q : PI} {x : XS} : (stepF r bu bad i q x).2.units ≤ bu ∧ ((stepF r bu bad i q x).1 = 0 → (stepF r bu bad i q x).2.units = x.units + 150) := by
 by_cases h1 : bu < x.units ∨ bu - x.units < 150
 ·rw [stepF_20 h1]; exact ⟨Nat.le_refl _, fun h => absurd (show (20 : Int) = 0 from h) (by decide)⟩
 ·by_cases h2 : (i : Int) = bad
  ·rw [stepF_21 h1 h2]; exact ⟨by show x.units + 150 ≤ bu; omega, fun h => absurd (show (21 : Int) = 0 from h) (by decide)⟩
  ·rw [stepF_act h1 h2]
   have h3 : (actF r q { x with units := x.units + 150 }).2.units = x.units + 150 := by
    unfold actF
    split
    ·rfl
    ·split
     ·split <;> rfl
     ·rfl
   rw [h3]
   exact ⟨by omega, fun _ => rfl⟩
theorem runL_units {r : List Role} {bu : Nat} {bad : Int} : ∀ {qs : List PI} {i : Nat} {x : XS}, x.units ≤ bu → (runL r bu bad qs i x).2.2.units ≤ bu ∧ ((runL r bu bad qs i x).1 = 0 → (runL r bu bad qs i x).2.2.units = x.units + 150 * qs.length) ∧ ((runL r bu bad qs i x).1 ≠ 0 → i ≤ (runL r bu bad qs i x).2.1 ∧ (runL r bu bad qs i x).2.1 < i + qs.length)
 | [], i, x, h => ⟨h, fun _ => rfl, fun h => absurd rfl h⟩
 | q :: qs, i, x, h => by
  have hs := stepF_units (r := r) (bu := bu) (bad := bad) (i := i) (q := q) (x := x)
  unfold runL
  split
  ·next he => exact ⟨hs.1, fun h => absurd h he, fun _ => ⟨Nat.le_refl _, by simp⟩⟩
  ·next he =>
   have he : (stepF r bu bad i q x).1 = 0 := by simpa using he
   obtain ⟨h1, h2, h3⟩ := runL_units (r := r) (bad := bad) (qs := qs) (i := i + 1) hs.1
   refine ⟨h1, fun h => ?_, fun h => ?_⟩
   ·rw [h2 h, hs.2 he, List.length_cons]; omega
   ·have := h3 h
    rw [List.length_cons]; omega
theorem runZ_units (R : Ready) (r : List Role) (qs : List PI) (l : List Account) : (runZ R r qs l).2.2.units ≤ R.budget.units ∧ ((runZ R r qs l).1 = 0 → (runZ R r qs l).2.2.units = 150 * qs.length) ∧ ((runZ R r qs l).1 ≠ 0 → (runZ R r qs l).2.1 < qs.length) := by
 obtain ⟨h1, h2, h3⟩ := runL_units (r := r) (bu := R.budget.units) (bad := R.budget.bad) (qs := qs) (i := 0) (x := ⟨0, 0, l⟩) (Nat.zero_le _)
 exact ⟨h1, fun h => (h2 h).trans (Nat.zero_add _), fun h => by have := h3 h; unfold runZ; omega⟩
theorem chgF_at {r : List Role} {l : List Account} {k : Nat} (h1 : k < r.length) (h2 : k < l.length) (hw : r[k].writes = true) : (chgF r l)[(chgF (r.take k) (l.take k)).length]? = some ⟨r[k].key, l[k]⟩ := by
 have h : chgF r l = chgF (r.take (k + 1)) (l.take (k + 1)) ++ chgF (r.drop (k + 1)) (l.drop (k + 1)) := by
  unfold chgF
  rw [← List.filterMap_append, ← List.zip_append (by simp; omega), List.take_append_drop, List.take_append_drop]
 rw [h, chgF_step h1 h2, if_pos hw, List.append_assoc, List.getElem?_append_right (Nat.le_refl _)]
 simp
theorem chgF_get {r : List Role} {l : List Account} {k : Nat} (h1 : k < r.length) (h2 : k < l.length) (hw : r[k].writes = true) : ∃ h : (chgF (r.take k) (l.take k)).length < (chgF r l).length, (chgF r l)[(chgF (r.take k) (l.take k)).length] = ⟨r[k].key, l[k]⟩ := by
 have h := chgF_at h1 h2 hw
 obtain ⟨h3, h4⟩ := List.getElem?_eq_some_iff.1 h
 exact ⟨h3, h4⟩

/-- what an outcome makes of a store -/
def putsF (d : StD) (ch : List Holding) : StD := ch.foldl (fun d h => d.put h.key h.account) d
theorem putsF_step {d : StD} {ch : List Holding} {k : Nat} (h : k < ch.length) : putsF d (ch.take (k + 1)) = (putsF d (ch.take k)).put ch[k].key ch[k].account := by
 unfold putsF; rw [List.take_succ_eq_append_getElem h, List.foldl_append]; rfl
theorem putsF_ok {d : StD} (h : StOk d) : ∀ (ch : List Holding), StOk (putsF d ch)
 | [] => h
 | x :: ch => by
  have := putsF_ok (h.put x.key x.account) ch
  exact this

theorem there16 (wb w0 : World) (S : List Ent) (p : Nat) (d : StD) (hok : StOk d) (hS0 : St wb (stE p d :: S) w0) : Ret Tryd.prog 27 #[.pointer (some ⟨p, 0, none⟩)] w0 (fun u w' => u = .int .i64 0 ∧ St wb (stE p d :: S) w') := by
 refine Ret.enter (args := [.pointer (some ⟨p, 0, none⟩)]) Tryd.func27 rfl Tryd.ntmps27 Tryd.results27 rfl ?_
 have hS := St.start w0
 replace hS := hS0
 refine WC.seq (fun K1 hK1 => ?_)
 refine WC.region ?_
 refine WL.op rfl (opW.assignI rfl ?_)
 refine WL.nil ?_
 refine thenQ_n (hK1 _ _ ?_)
 refine WC.seq (fun K2 hK2 => ?_)
 refine WC.region ?_
 refine WL.op rfl (opW.call (sys_ok _) rfl ?_)
 rintro _ w ⟨rfl, hw⟩; replace hS := hS.bel hw
 refine WL.op rfl (opW.allocA hS ?_)
 intro b3 w _ hS
 refine WL.op0 (opW.storeE hS rfl rfl (by repeat constructor) (by first | rfl | exact Enc.size_eq _) ?_)
 intro w hS; replace hS := hS _ (by repeat constructor)
 refine WL.nil ?_
 refine thenQ_n (hK2 _ _ ?_)
 refine WC.seq (fun K3 hK3 => ?_)
 refine WC.draw 5 (.look 0 (.look 1 (.look 2 (.look 3 (.one 4 (.one 5 (.one 6 .nil))))))) (by kernel_rfl) (fun _ _ _ h => h) (fun w1 hw1 => ?_)
 replace hS := hS.bel hw1
 have hS1 := hS
 have hT := St.start w1
 refine ML.look rfl rfl rfl (fun w hw => (by have hS := hS1.bel hw; exact opW.moveV (v := .pointer (some ⟨p, 0, none⟩)) rfl ⟨rfl, rfl⟩)) ?_
 refine ML.look rfl rfl rfl (fun w hw => (by have hS := hS1.bel hw; exact opW.loadV rfl (hS.ldA (b := b3) (cs := Enc.enc sysK) (by repeat constructor) (Enc.size_eq _)) ⟨rfl, rfl⟩)) ?_
 refine ML.look rfl rfl rfl (fun w hw => (by have hS := hS1.bel hw; exact opW.moveV (v := .pointer (some ⟨p, 0, none⟩)) rfl ⟨rfl, rfl⟩)) ?_
 refine ML.look rfl rfl rfl (fun w hw => (by have hS := hS1.bel hw; exact opW.loadV rfl (hS.ldA (b := b3) (cs := Enc.enc sysK) (by repeat constructor) (Enc.size_eq _)) ⟨rfl, rfl⟩)) ?_
 refine ML.one rfl rfl rfl (opW.call (get13 _ p d sysK (hS.stAt (by repeat constructor))) rfl ?_)
 rintro _ w ⟨rfl, hw⟩; replace hT := hT.bel hw
 refine ⟨hT.old, ?_⟩
 have hS := hS1.merge hT
 try simp only [List.cons_append, List.nil_append] at hS
 refine ML.put1 rfl rfl rfl rfl (opW.call (put13 wb _ _ p d sysK (d.get sysK) (hS.pick (e := stE p d) (by repeat constructor))) rfl ?_)
 rintro _ w ⟨rfl, hS⟩
 rw [StD.put_same hok] at hS
 refine ML.put1 rfl rfl rfl rfl (opW.assignI rfl ?_)
 refine ML.nil ?_
 refine thenQ_n (hK3 _ _ ?_)
 refine WC.ret ?_
 refine bodyQ_ret (.tmpI rfl .nil) ?_
 exact ⟨rfl, hS.sub (by repeat with_reducible first | exact su1 _ | exact su2 _ | refine su3 ?_ | refine su4 ?_)⟩

theorem commit16 (wb w0 : World) (S : List Ent) (p : Nat) (d : StD) (o : Outcome) (ch : List Holding) (hok : StOk d) (hc : ∀ w, St wb S w → SlR w o.changed.v ch) (hcb : ch.length ≤ 100000) (hS0 : St wb (stE p d :: S) w0) : Ret Tryd.prog 19 #[.pointer (some ⟨p, 0, none⟩), .agg (Enc.enc o)] w0 (fun u w' => u = .int .i64 0 ∧ St wb (stE p (putsF d ch) :: S) w') := by
 refine Ret.enter (args := [.pointer (some ⟨p, 0, none⟩), .agg (Enc.enc o)]) Tryd.func19 rfl Tryd.ntmps19 Tryd.results19 rfl ?_
 have hS := St.start w0
 replace hS := hS0
 refine WC.seq (fun K1 hK1 => ?_)
 refine WC.region ?_
 refine WL.op rfl (opW.boxA hS rfl ?_)
 intro b3 w _ hS
 refine WL.op rfl (opW.assignI rfl ?_)
 refine WL.nil ?_
 refine thenQ_n (hK1 _ _ ?_)
 refine WC.seq (fun K2 hK2 => ?_)
 refine WC.seq (fun K3 hK3 => ?_)
 refine WC.region ?_
 refine WL.op rfl (opW.moveV (v := .pointer (some ⟨p, 0, none⟩)) rfl ?_)
 refine WL.op rfl (opW.call (there16 wb _ _ p d hok (hS.pick (e := stE p d) (by repeat constructor))) rfl ?_)
 rintro _ w ⟨rfl, hS⟩
 refine WL.op rfl (opW.assignI rfl ?_)
 refine WL.nil ?_
 refine thenQ_n (hK3 _ _ ?_)
 refine WC.seq (fun K4 hK4 => ?_)
 refine WC.region ?_
 refine WL.op rfl (opW.moveI rfl ?_)
 refine WL.op rfl (opW.neq rfl rfl ?_)
 refine WL.nil ?_
 refine thenQ_n (hK4 _ _ ?_)
 refine WC.cond _ rfl (fun hc0 => ?_) (fun hc0 => ?_)
 ·
  have hr0 := hc0
  try simp only [sq1,sq2,sq3,sq4,sq5,sq6,sq7,sq8,sq9,sq0] at hc0
  cases hr0
 ·
  have hr0 := hc0
  try simp only [sq1,sq2,sq3,sq4,sq5,sq6,sq7,sq8,sq9,sq0] at hc0
  refine WC.skip ?_
  refine thenQ_n (hK2 _ _ ?_)
  refine WC.seq (fun K5 hK5 => ?_)
  refine WC.seq (fun K6 hK6 => ?_)
  refine WC.region ?_
  refine WL.op rfl (opW.fieldAddrB rfl ?_)
  refine WL.op rfl (opW.loadV rfl (hS.ld1 (b := b3) (cs := Enc.enc o) (by repeat constructor) (Outcome.at_changed o)) ?_)
  refine WL.op rfl (opW.lenV rfl ((hc _ (hS.sub (by repeat with_reducible first | exact su1 _ | exact su2 _ | refine su3 ?_ | refine su4 ?_)))) ?_)
  refine WL.op rfl (opW.moveI rfl ?_)
  refine WL.nil ?_
  refine thenQ_n (hK6 _ _ ?_)
  refine WC.block ?_
  refine WC.loop (fun q f w => ∃ k : Nat, Fits [(0, .pointer (some ⟨p, 0, none⟩)), (14, o.changed.v), (15, .int .i64 (ch.length : Int)), (16, .int .i64 (k : Int))] f ∧ St wb (stE p (putsF d (ch.take k)) :: blkE b3 (Enc.enc o) 59 :: S) w ∧ k ≤ ch.length ∧ q = ch.length - k) (ch.length) ?_ ?_
  ·
   exact ⟨0, ⟨rfl, rfl, rfl, rfl, trivial⟩, (show St wb (stE p d :: blkE b3 (Enc.enc o) 59 :: S) w from (hS.pick (e := blkE b3 (Enc.enc o) 59) (by repeat constructor)).pick (e := stE p d) (by repeat constructor) |>.sub (by repeat with_reducible first | exact su1 _ | exact su2 _ | refine su3 ?_ | refine su4 ?_)), Nat.zero_le _, rfl⟩
  ·
   rintro q f w ⟨k, hfit, hS, hk0, hm⟩
   refine WC.fits _ hfit (fun g => ?_)
   clear hfit
   refine WC.seq (fun K7 hK7 => ?_)
   refine WC.region ?_
   refine WL.op rfl (opW.lss rfl rfl ?_)
   refine WL.nil ?_
   refine thenQ_n (hK7 _ _ ?_)
   refine WC.seq (fun K8 hK8 => ?_)
   refine WC.cond _ rfl (fun hc1 => ?_) (fun hc1 => ?_)
   ·
    have hr1 := hc1
    try simp only [sq1,sq2,sq3,sq4,sq5,sq6,sq7,sq8,sq9,sq0] at hc1
    have hkl : k < ch.length := by omega
    refine WC.skip ?_
    refine thenQ_n (hK8 _ _ ?_)
    refine WC.seq (fun K9 hK9 => ?_)
    refine WC.block ?_
    refine WC.seq (fun K10 hK10 => ?_)
    refine WC.region ?_
    refine WL.op rfl (opW.idxV rfl ((hc _ (hS.sub (by repeat with_reducible first | exact su1 _ | exact su2 _ | refine su3 ?_ | refine su4 ?_)))) rfl (by omega) ?_)
    refine WL.op rfl (opW.loadV rfl (((hc _ (hS.sub (by repeat with_reducible first | exact su1 _ | exact su2 _ | refine su3 ?_ | refine su4 ?_))).isPt hkl).ldA (Enc.size_eq ch[k])) ?_)
    refine WL.op rfl (opW.allocA hS ?_)
    intro b7 w _ hS
    refine WL.op0 (opW.storeE hS rfl rfl (by repeat constructor) (by first | rfl | exact Enc.size_eq _) ?_)
    intro w hS; replace hS := hS _ (by repeat constructor)
    refine WL.nil ?_
    refine thenQ_n (hK10 _ _ ?_)
    refine WC.region ?_
    refine WL.op rfl (opW.moveV (v := .pointer (some ⟨p, 0, none⟩)) rfl ?_)
    refine WL.op rfl (opW.fieldAddrB rfl ?_)
    refine WL.op rfl (opW.loadV rfl (hS.ldF (b := b7) (cs := Enc.enc ch[k]) (o := 0) (by repeat constructor) (Holding.ex_key _) (by rw [Enc.size_eq]; decide)) ?_)
    refine WL.op rfl (opW.fieldAddrB rfl ?_)
    refine WL.op rfl (opW.loadV rfl (hS.ldF (b := b7) (cs := Enc.enc ch[k]) (o := 32) (by repeat constructor) (Holding.ex_account _) (by rw [Enc.size_eq]; decide)) ?_)
    refine WL.op rfl (opW.call (put13 wb _ _ p (putsF d (ch.take k)) ch[k].key ch[k].account (hS.pick (e := stE p (putsF d (ch.take k))) (by repeat constructor))) rfl ?_)
    rintro _ w ⟨rfl, hS⟩
    refine WL.nil ?_
    refine blockQ_n ?_
    refine thenQ_n (hK9 _ _ ?_)
    refine WC.region ?_
    refine WL.op rfl (opW.add rfl rfl (wrap_i64 (by omega)) ?_)
    refine WL.op rfl (opW.moveI rfl ?_)
    refine WL.nil ?_
    refine thenQ_n ?_
    rw [← putsF_step hkl] at hS
    exact ⟨ch.length - (k + 1), by omega, k + 1, ⟨rfl, rfl, rfl, congrArg (Value.int .i64) (by omega), trivial⟩, ((hS.pick (e := blkE b3 (Enc.enc o) 59) (by repeat constructor)).pick (e := stE p (putsF d (ch.take (k + 1)))) (by repeat constructor)).sub (by repeat with_reducible first | exact su1 _ | exact su2 _ | refine su3 ?_ | refine su4 ?_), by omega, rfl⟩
   ·
    have hr1 := hc1
    try simp only [sq1,sq2,sq3,sq4,sq5,sq6,sq7,sq8,sq9,sq0] at hc1
    have hkk : ch.take k = ch := List.take_of_length_le (by omega)
    rw [hkk] at hS
    refine WC.exit ?_
    refine thenQ_e ?_
    refine thenQ_e ?_
    refine blockQ_hit ?_
    refine thenQ_n (hK5 _ _ ?_)
    refine WC.seq (fun K11 hK11 => ?_)
    refine WC.region ?_
    refine WL.op rfl (opW.assignI rfl ?_)
    refine WL.nil ?_
    refine thenQ_n (hK11 _ _ ?_)
    refine WC.ret ?_
    refine bodyQ_ret (.tmpI rfl .nil) ?_
    exact ⟨rfl, hS.sub (by repeat with_reducible first | exact su1 _ | exact su2 _ | refine su3 ?_ | refine su4 ?_)⟩

/-- a transaction: its record, its roles, its instructions -/
structure TX where
 R : Ready
 r : List Role
 ins : List Instr
 qs : List PI
def TX.l (x : TX) (d : StD) : List Account := paidA x.R.fee (loadA d x.r)
def errF (d : StD) (x : TX) : Int := if payB x.R.fee x.r (loadA d x.r) = false then 22 else if badArg x.r (x.l d) x.ins = true then 1 else 0
def chF (d : StD) (x : TX) : List Holding := chgF x.r (accF x.R x.r x.qs (x.l d))
def nextF (d : StD) (x : TX) : StD := if errF d x = 0 then putsF d (chF d x) else d
/-- what comes of a transaction -/
def OcIs (d : StD) (x : TX) (o : Outcome) (ch : List Holding) : Prop := (errF d x = 0 ∧ ch = chF d x ∧ ∃ s, o = outF x.R x.r x.qs (x.l d) s) ∨ (errF d x ≠ 0 ∧ ch = [] ∧ o = oz)
structure TXOk (w : World) (x : TX) : Prop where
 ro : SlR w x.R.roles.v x.r
 i : SlR w x.R.tx.m.instrs.v x.ins
 ql : x.ins.length = x.qs.length
 q : ∀ k (h : k < x.ins.length) (h2 : k < x.qs.length), InIs w x.ins[k] x.qs[k]
 bu : x.R.budget.units < 18446744073709551616
 rb : x.r.length ≤ 100000
 fe : x.R.fee < 18446744073709551616
theorem TXOk.bel {w w' : World} {x : TX} (h : TXOk w x) (hb : Bel w w') : TXOk w' x := ⟨h.ro.bel hb, h.i.bel hb, h.ql, fun k h1 h2 => (h.q k h1 h2).bel hb, h.bu, h.rb, h.fe⟩
theorem TX.l_len (x : TX) (d : StD) : (x.l d).length = x.r.length := by unfold TX.l paidA; rw [List.length_set, loadA_len]
theorem TX.l_ok {x : TX} {d : StD} (h : okS d) : ∀ y ∈ x.l d, okW y := by
 intro y hy
 have hA : ∀ z ∈ loadA d x.r, okW z := by
  intro z hz
  unfold loadA at hz
  obtain ⟨a, _, rfl⟩ := List.mem_map.1 hz
  exact h _
 unfold TX.l paidA at hy
 rcases List.mem_or_eq_of_mem_set hy with hy | rfl
 ·exact hA y hy
 ·have h0 : okW ((loadA d x.r).getD 0 az) := by
   rw [List.getD_eq_getElem?_getD]
   cases hg : (loadA d x.r)[0]? with
   | none => exact ⟨by decide, by decide⟩
   | some z => exact hA z (List.mem_of_getElem? hg)
  exact ⟨by have := h0.1; show _ - _ < _; omega, h0.2⟩

set_option maxHeartbeats 1000000 in
theorem apply16 (wb w0 : World) (S : List Ent) (p : Nat) (d : StD) (x : TX) (hok : StOk d) (hsok : okS d) (hg : ErrLaid wb) (hx : ∀ w, St wb S w → TXOk w x) (hS0 : St wb (stE p d :: S) w0) : Ret Tryd.prog 13 #[.pointer (some ⟨p, 0, none⟩), .agg (Enc.enc x.R)] w0 (fun u w' => ∃ (o : Outcome) (ch : List Holding), u = .tuple #[.agg (Enc.enc o), .int .i64 (errF d x)] ∧ OcIs d x o ch ∧ St wb (ownE o.changed.v 66 ch :: stE p (nextF d x) :: S) w') := by
 refine Ret.enter (args := [.pointer (some ⟨p, 0, none⟩), .agg (Enc.enc x.R)]) Tryd.func13 rfl Tryd.ntmps13 Tryd.results13 rfl ?_
 have hS := St.start w0
 have hx0 := hx _ (hS0.sub (by repeat with_reducible first | exact su1 _ | exact su2 _ | refine su3 ?_ | refine su4 ?_))
 have hxb := hx0.rb
 replace hS := hS0
 refine WC.seq (fun K1 hK1 => ?_)
 refine WC.region ?_
 refine WL.op rfl (opW.boxA hS rfl ?_)
 intro b3 w _ hS
 refine WL.op rfl (opW.allocA hS ?_)
 intro b4 w _ hS
 refine WL.op rfl (opW.assignI rfl ?_)
 rw [zOut] at hS
 refine WL.nil ?_
 refine thenQ_n (hK1 _ _ ?_)
 refine WC.seq (fun K2 hK2 => ?_)
 refine WC.region ?_
 refine WL.op rfl (opW.moveV (v := .pointer (some ⟨p, 0, none⟩)) rfl ?_)
 refine WL.op rfl (opW.loadV rfl (hS.ldA (b := b3) (cs := Enc.enc x.R) (by repeat constructor) (Enc.size_eq x.R)) ?_)
 refine WL.op rfl (opW.call (load15 wb _ (blkE b4 (Enc.enc oz) 59 :: blkE b3 (Enc.enc x.R) 56 :: S) p d x.R x.r hok hsok (fun w hS => ((hx _ (hS.sub (by repeat with_reducible first | exact su1 _ | exact su2 _ | refine su3 ?_ | refine su4 ?_))).ro)) (by have := hxb; omega) ((hS.pick (e := stE p d) (by repeat constructor)))) rfl ?_)
 rintro u12 w ⟨d2, hdd, hok2, hL⟩
 rw [hdd] at hok2 hL
 clear hdd
 obtain ⟨sl, e1, ll, rfl, hcase, hS⟩ : ∃ (sl : SlV) (e1 : Int) (ll : List Account), u12 = .tuple #[sl.v, .int .i64 e1] ∧ ((payB x.R.fee x.r (loadA d x.r) = false ∧ e1 = 22) ∨ (payB x.R.fee x.r (loadA d x.r) = true ∧ e1 = 0 ∧ ll = x.l d)) ∧ St wb (ownE sl.v 64 ll :: stE p d :: blkE b4 (Enc.enc oz) 59 :: blkE b3 (Enc.enc x.R) 56 :: S) w := by
  rcases hL with ⟨h1, rfl, hS⟩ | ⟨h1, sv, rfl, hS⟩
  ·exact ⟨⟨none, 0, 0⟩, 22, [], rfl, .inl ⟨h1, rfl⟩, hS.nilOwn 64⟩
  ·exact ⟨sv, 0, _, rfl, .inr ⟨h1, rfl, rfl⟩, hS⟩
 refine WL.op rfl (opW.moveV (v := .tuple #[sl.v, .int .i64 e1]) rfl ?_)
 refine WL.op rfl (opW.extract rfl rfl ?_)
 refine WL.op rfl (opW.extract rfl rfl ?_)
 refine WL.op rfl (opW.assignV (v := sl.v) rfl ?_)
 refine WL.op rfl (opW.assignI rfl ?_)
 refine WL.nil ?_
 refine thenQ_n (hK2 _ _ ?_)
 refine WC.seq (fun K3 hK3 => ?_)
 refine WC.seq (fun K4 hK4 => ?_)
 refine WC.region ?_
 refine WL.op rfl (opW.moveI rfl ?_)
 refine WL.op rfl (opW.neq rfl rfl ?_)
 refine WL.nil ?_
 refine thenQ_n (hK4 _ _ ?_)
 refine WC.cond _ rfl (fun hc0 => ?_) (fun hc0 => ?_)
 ·
  have hr0 := hc0
  try simp only [sq1,sq2,sq3,sq4,sq5,sq6,sq7,sq8,sq9,sq0] at hc0
  have he1 : e1 ≠ 0 := by simpa using hr0
  have hp : payB x.R.fee x.r (loadA d x.r) = false := by
   rcases hcase with h | h
   ·exact h.1
   ·exact absurd h.2.1 he1
  obtain rfl : e1 = 22 := by
   rcases hcase with h | h
   ·exact h.2
   ·exact absurd h.2.1 he1
  have hF : errF d x = 22 := if_pos hp
  refine WC.seq (fun K5 hK5 => ?_)
  refine WC.region ?_
  refine WL.op rfl (opW.buildE (r := oz) (ps := Outcome.parts oz) (Outcome.enc_eq _) (by exact rfl) (by exact trivial) ?_)
  refine WL.op rfl (opW.moveI rfl ?_)
  refine WL.op0 (opW.storeE (r := oz) hS rfl rfl (by repeat constructor) (Enc.size_eq oz) ?_)
  intro w hS; replace hS := hS _ (by repeat constructor)
  refine WL.op rfl (opW.assignI rfl ?_)
  refine WL.nil ?_
  refine thenQ_n (hK5 _ _ ?_)
  refine WC.ret ?_
  refine thenQ_r ?_
  refine bodyQ_ret (.cell (hS.ldA (b := b4) (cs := Enc.enc oz) (by repeat constructor) (Enc.size_eq oz)) (.tmpI rfl .nil)) ?_
  rw [hF, show nextF d x = d from if_neg (by rw [hF]; decide)]
  replace hS := hS.nilOwn (α := Holding) 66
  exact ⟨oz, [], rfl, .inr ⟨by rw [hF]; decide, rfl, rfl⟩, (show St wb (ownE (.slice none 0 0) 66 ([] : List Holding) :: stE p d :: S) _ from ((hS.pick (e := stE p d) (by repeat constructor)).pick (e := ownE (.slice none 0 0) 66 ([] : List Holding)) (by repeat constructor)).sub (by repeat with_reducible first | exact su1 _ | exact su2 _ | refine su3 ?_ | refine su4 ?_))⟩
 ·
  have hr0 := hc0
  try simp only [sq1,sq2,sq3,sq4,sq5,sq6,sq7,sq8,sq9,sq0] at hc0
  have he1 : e1 = 0 := by simpa using hr0
  obtain ⟨hp, _, hlle⟩ := hcase.resolve_left (fun h => absurd (he1.symm.trans h.2) (by decide))
  have hll : ll.length = x.r.length := by rw [hlle]; exact x.l_len d
  refine WC.skip ?_
  refine thenQ_n (hK3 _ _ ?_)
  refine WC.seq (fun K6 hK6 => ?_)
  refine WC.region ?_
  refine WL.op rfl (opW.loadV rfl (hS.ldA (b := b3) (cs := Enc.enc x.R) (by repeat constructor) (Enc.size_eq x.R)) ?_)
  refine WL.op rfl (opW.moveV (v := sl.v) rfl ?_)
  refine WL.op rfl (opW.call (run_any _ x.R sl ll x.r x.ins x.qs (hg.bel hS.old) (hS.sl (v := sl.v) (xs := ll) (by repeat constructor)) (hx _ (hS.sub (by repeat with_reducible first | exact su1 _ | exact su2 _ | refine su3 ?_ | refine su4 ?_))).ro (hx _ (hS.sub (by repeat with_reducible first | exact su1 _ | exact su2 _ | refine su3 ?_ | refine su4 ?_))).i hx0.ql (hx _ (hS.sub (by repeat with_reducible first | exact su1 _ | exact su2 _ | refine su3 ?_ | refine su4 ?_))).q hx0.bu (by have := hx0.rb; omega) hx0.rb (by rw [hlle]; exact TX.l_ok hsok)) rfl ?_)
  rintro _ w ⟨o, e2, ch, rfl, hn22, hO, hw⟩; replace hS := hS.newOwn hw hn22.1 hn22.2
  rw [hlle] at hO
  refine WL.op rfl (opW.moveV (v := .tuple #[.agg (Enc.enc o), .int .i64 e2]) rfl ?_)
  refine WL.op rfl (opW.extract rfl rfl ?_)
  refine WL.op rfl (opW.extract rfl rfl ?_)
  refine WL.op rfl (opW.allocA hS ?_)
  intro b8 w _ hS
  refine WL.op0 (opW.storeE hS rfl rfl (by repeat constructor) (by first | rfl | exact Enc.size_eq _) ?_)
  intro w hS; replace hS := hS _ (by repeat constructor)
  refine WL.op rfl (opW.assignI rfl ?_)
  refine WL.nil ?_
  refine thenQ_n (hK6 _ _ ?_)
  refine WC.seq (fun K7 hK7 => ?_)
  refine WC.seq (fun K8 hK8 => ?_)
  refine WC.region ?_
  refine WL.op rfl (opW.moveI rfl ?_)
  refine WL.op rfl (opW.eql rfl rfl ?_)
  refine WL.nil ?_
  refine thenQ_n (hK8 _ _ ?_)
  refine WC.cond _ rfl (fun hc1 => ?_) (fun hc1 => ?_)
  ·
   have hr1 := hc1
   try simp only [sq1,sq2,sq3,sq4,sq5,sq6,sq7,sq8,sq9,sq0] at hc1
   obtain rfl : e2 = 0 := by simpa using hr1
   obtain ⟨hb, s, hos, hch⟩ := hO.good rfl
   have hF : errF d x = 0 := by unfold errF; rw [if_neg (by rw [hp]; decide), if_neg (by rw [show badArg x.r (x.l d) x.ins = false from hb]; decide)]
   refine WC.region ?_
   have hcb : ch.length ≤ 100000 := by rw [hch]; have := chgF_len x.r (accF x.R x.r x.qs (x.l d)); have := hx0.rb; omega
   refine WL.op rfl (opW.moveV (v := .pointer (some ⟨p, 0, none⟩)) rfl ?_)
   refine WL.op rfl (opW.loadV rfl (hS.ldA (b := b8) (cs := Enc.enc o) (by repeat constructor) (Enc.size_eq o)) ?_)
   refine WL.op rfl (opW.call (commit16 wb _ (blkE b8 (Enc.enc o) 59 :: ownE o.changed.v 66 ch :: ownE sl.v 64 ll :: blkE b4 (Enc.enc oz) 59 :: blkE b3 (Enc.enc x.R) 56 :: S) p d o ch hok (fun w hS => hS.sl (v := o.changed.v) (xs := ch) (by repeat constructor)) hcb (hS.pick (e := stE p d) (by repeat constructor))) rfl ?_)
   rintro _ w ⟨rfl, hS⟩
   refine WL.op rfl (opW.assignI rfl ?_)
   refine WL.nil ?_
   refine thenQ_n (hK7 _ _ ?_)
   refine WC.seq (fun K9 hK9 => ?_)
   refine WC.region ?_
   refine WL.op rfl (opW.loadV rfl (hS.ldA (b := b8) (cs := Enc.enc o) (by repeat constructor) (Enc.size_eq o)) ?_)
   refine WL.op rfl (opW.moveI rfl ?_)
   refine WL.op0 (opW.storeE (r := o) (cs := Enc.enc oz) hS rfl rfl (by repeat constructor) (Enc.size_eq oz) ?_)
   intro w hS; replace hS := hS _ (by repeat constructor)
   refine WL.op rfl (opW.assignI rfl ?_)
   refine WL.nil ?_
   refine thenQ_n (hK9 _ _ ?_)
   refine WC.ret ?_
   refine bodyQ_ret (.cell (hS.ldA (b := b4) (cs := Enc.enc o) (by repeat constructor) (Enc.size_eq o)) (.tmpI rfl .nil)) ?_
   rw [hF, show nextF d x = putsF d (chF d x) from if_pos hF]
   rw [hch] at hS
   exact ⟨o, chF d x, rfl, .inl ⟨hF, rfl, s, hos⟩, ((hS.pick (e := stE p (putsF d (chF d x))) (by repeat constructor)).pick (e := ownE o.changed.v 66 (chF d x)) (by repeat constructor)).sub (by repeat with_reducible first | exact su1 _ | exact su2 _ | refine su3 ?_ | refine su4 ?_)⟩
  ·
   have hr1 := hc1
   try simp only [sq1,sq2,sq3,sq4,sq5,sq6,sq7,sq8,sq9,sq0] at hc1
   have he2 : e2 ≠ 0 := by simpa using hr1
   obtain ⟨he3, hb, ho, hch⟩ := hO.bad he2
   subst he3
   have hF : errF d x = 1 := by unfold errF; rw [if_neg (by rw [hp]; decide), if_pos hb]
   refine WC.skip ?_
   refine thenQ_n (hK7 _ _ ?_)
   refine WC.seq (fun K10 hK10 => ?_)
   refine WC.region ?_
   refine WL.op rfl (opW.loadV rfl (hS.ldA (b := b8) (cs := Enc.enc o) (by repeat constructor) (Enc.size_eq o)) ?_)
   refine WL.op rfl (opW.moveI rfl ?_)
   refine WL.op0 (opW.storeE (r := o) (cs := Enc.enc oz) hS rfl rfl (by repeat constructor) (Enc.size_eq oz) ?_)
   intro w hS; replace hS := hS _ (by repeat constructor)
   refine WL.op rfl (opW.assignI rfl ?_)
   refine WL.nil ?_
   refine thenQ_n (hK10 _ _ ?_)
   refine WC.ret ?_
   refine bodyQ_ret (.cell (hS.ldA (b := b4) (cs := Enc.enc o) (by repeat constructor) (Enc.size_eq o)) (.tmpI rfl .nil)) ?_
   subst ho hch
   rw [hF, show nextF d x = d from if_neg (by rw [hF]; decide)]
   exact ⟨oz, [], rfl, .inr ⟨by rw [hF]; decide, rfl, rfl⟩, ((hS.pick (e := stE p d) (by repeat constructor)).pick (e := ownE oz.changed.v 66 ([] : List Holding)) (by repeat constructor)).sub (by repeat with_reducible first | exact su1 _ | exact su2 _ | refine su3 ?_ | refine su4 ?_)⟩

end Go.Fer
