/- a run -/
import Derived.Test.YthfbfhokmknfnaaDoorK
import Derived.Test.YthfbfhokmknfnaaDoorK4
import Derived.Test.YthfbfhokmknfnaaDoorR2
set_option linter.all false
namespace Go.Fer
open Go Go.Proofs Go.RowKit

theorem as_ret {wb w : World} {S : List Ent} {tb : Nat} {o : Outcome} {E : TypeId} (n : Int) (hg : ErrLaid w) (hS : St wb S w) (he : Has (blkE tb (Enc.enc o) E) S) :
  Ret Tryd.prog 43 #[.iface 33 (.int .i64 n), .iface 112 (.pointer (some ⟨tb, 0, none⟩))] w (fun u w' => u = .bool true ∧ ∀ S', Turn (blkE tb (Enc.enc o) E) (blkE tb (Enc.enc ({ o with fail := n } : Outcome)) E) S S' → St wb S' w') := by
 have hb := hS.blk he
 have hsz : (Enc.enc o).size = 6 := Enc.size_eq o
 unfold Ret
 refine Calls.mono (as_hit n tb (Enc.enc o) E w hg hb (by omega)) ?_
 rintro e w' ⟨rfl, rfl⟩
 refine ⟨_, rfl, rfl, fun S' hT => ?_⟩
 have b1 := Bel.alloc w (.cells #[.pointer (some ⟨tb, 0, none⟩)] 112)
 have b2 := Bel.alloc (A1 tb w) (.cells #[.pointer (some ⟨1, 112, none⟩), .pointer (some ⟨w.heap.size, 0, none⟩), .int .u64 150] 135)
 have b3 := Bel.alloc (A2 tb w) (.cells #[.pointer (some ⟨1, 112, none⟩), .pointer (some ⟨w.heap.size, 0, none⟩), .int .u64 150] 135)
 have b4 := Bel.alloc (A3 tb w) (.cells #[.int .i64 n] 33)
 have b := ((b1.trans b2).trans b3).trans b4
 have hb4 : (A4 n tb w).heap[tb]? = some (.cells (Enc.enc o) E (0, 0)) := b.get hb
 have heq : ((Enc.enc o).toList.take 0 ++ (Value.int .i64 n).cells.toList ++ (Enc.enc o).toList.drop (0 + (Value.int .i64 n).cells.toList.length)).toArray = Enc.enc ({ o with fail := n } : Outcome) := by
  rw [← Outcome.set_fail o n]
  unfold spl
  apply Array.ext'
  simp [Value.cells]
  rw [List.take_of_length_le (by simp)]
 rw [heq]
 refine St.turn ?_ ?_ ?_ (hS.bel b) hT
 ·unfold blkE
  exact ⟨rfl, rfl, rfl, by simp [World.setRow], fun k _ hk => setRow_other _ tb k _ hk⟩
 ·unfold blkE; exact setRow_heap _ tb _ _ E _ hb4
 ·unfold blkE; intro k hk; exact .inl hk
theorem as_none (t : Value) (w : World) : Ret Tryd.prog 43 #[.nilIface, t] w (fun u w' => u = .bool false ∧ Bel w w') := by
 unfold Ret
 refine Calls.mono (as_nil t w) ?_
 rintro e w' ⟨rfl, rfl⟩
 exact ⟨_, rfl, rfl, Bel.refl _⟩
/-- an error, as the program has it: nil, or an Errno in an interface -/
def errV (e : Int) : Value := if e = 0 then .nilIface else .iface 33 (.int .i64 e)
theorem errV_0 : errV 0 = .nilIface := rfl
theorem errV_ne {e : Int} (h : e ≠ 0) : errV e = .iface 33 (.int .i64 e) := if_neg h

/-- an instruction, read -/
structure PI where
 p : UInt8
 ats : List UInt8
 dt : List UInt8
def InIs (w : World) (c : Instr) (q : PI) : Prop := c.program = q.p ∧ SlR w c.accounts.v q.ats ∧ SlR w c.data.v q.dt
theorem InIs.bel {w w' : World} {c : Instr} {q : PI} (hb : Bel w w') (h : InIs w c q) : InIs w' c q := ⟨h.1, h.2.1.bel hb, h.2.2.bel hb⟩
/-- what a running transaction has -/
structure XS where
 units : Nat
 space : Nat
 l : List Account
def keyAt (r : List Role) (p : UInt8) : Key := (r.getD p.toNat ⟨vz 32, false, false⟩).key
theorem keyAt_eq {r : List Role} {p : UInt8} (h : p.toNat < r.length) : keyAt r p = r[p.toNat].key := by unfold keyAt; rw [getD_of h]
/-- one instruction that has its units -/
def actF (r : List Role) (q : PI) (x : XS) : Int × XS :=
 if keyAt r q.p = budK then (0, x) else if keyAt r q.p = sysK then
  (if (doF x.l r q.ats q.dt).1 ≠ 0 then ((doF x.l r q.ats q.dt).1, x) else (0, { x with l := (doF x.l r q.ats q.dt).2.2, space := (x.space + (doF x.l r q.ats q.dt).2.1) % 18446744073709551616 }))
 else (19, x)
/-- one step -/
def stepF (r : List Role) (bu : Nat) (bad : Int) (i : Nat) (q : PI) (x : XS) : Int × XS :=
 if bu < x.units ∨ bu - x.units < 150 then (20, { x with units := bu }) else
 if (i : Int) = bad then (21, { x with units := x.units + 150 }) else actF r q { x with units := x.units + 150 }
theorem stepF_20 {r : List Role} {bu : Nat} {bad : Int} {i : Nat} {q : PI} {x : XS} (h : bu < x.units ∨ bu - x.units < 150) : stepF r bu bad i q x = (20, { x with units := bu }) := if_pos h
theorem stepF_21 {r : List Role} {bu : Nat} {bad : Int} {i : Nat} {q : PI} {x : XS} (h : ¬ (bu < x.units ∨ bu - x.units < 150)) (hi : (i : Int) = bad) : stepF r bu bad i q x = (21, { x with units := x.units + 150 }) := by unfold stepF; rw [if_neg h, if_pos hi]
theorem stepF_act {r : List Role} {bu : Nat} {bad : Int} {i : Nat} {q : PI} {x : XS} (h : ¬ (bu < x.units ∨ bu - x.units < 150)) (hi : ¬ (i : Int) = bad) : stepF r bu bad i q x = actF r q { x with units := x.units + 150 } := by unfold stepF; rw [if_neg h, if_neg hi]
theorem actF_b {r : List Role} {q : PI} {x : XS} (h : keyAt r q.p = budK) : actF r q x = (0, x) := if_pos h
theorem actF_s {r : List Role} {q : PI} {x : XS} (h : keyAt r q.p = sysK) : actF r q x = (if (doF x.l r q.ats q.dt).1 ≠ 0 then ((doF x.l r q.ats q.dt).1, x) else (0, { x with l := (doF x.l r q.ats q.dt).2.2, space := (x.space + (doF x.l r q.ats q.dt).2.1) % 18446744073709551616 })) := by
 unfold actF; rw [if_neg (fun e => bud_ne (e.symm.trans h)), if_pos h]
theorem actF_n {r : List Role} {q : PI} {x : XS} (h : keyAt r q.p ≠ budK) (h2 : keyAt r q.p ≠ sysK) : actF r q x = (19, x) := by unfold actF; rw [if_neg h, if_neg h2]
theorem Running.at_bu (x : Running) : (Enc.enc x)[42]? = some (.int .u64 (x.r.budget.units : Int)) := at_of_ex (i := 42) (Running.ex_r x) (Ready.at_budget_units x.r) (by decide)
theorem Running.at_bad (x : Running) : (Enc.enc x)[44]? = some (.int .i64 x.r.budget.bad) := at_of_ex (i := 44) (Running.ex_r x) (Ready.at_budget_bad x.r) (by decide)
theorem progF_some {k : Key} {v : Value} (h : progF k = some v) : (k = budK ∧ v = progBV) ∨ (k = sysK ∧ v = progSV) := by
 unfold progF at h
 split at h
 ·next hk => cases h; exact .inl ⟨hk, rfl⟩
 ·split at h
  ·next hk => cases h; exact .inr ⟨hk, rfl⟩
  ·cases h
theorem progF_none {k : Key} (h : (progF k).isSome = false) : k ≠ budK ∧ k ≠ sysK := by
 unfold progF at h
 split at h
 ·cases h
 ·next h1 =>
  split at h
  ·cases h
  ·next h2 => exact ⟨h1, h2⟩

theorem opW.lookup2ZB {κ ν : Type} [DecidableEq κ] [KV κ] {P : Program} {f : Fr} {w : World} {R : Value → World → Prop} {d : Option Tmp} {T : TypeId} {pos : String} {af : Array Edge} {gd : Option (Nat × Bool)} {t K E r : Nat} {z0 u : ν} {x ix : Operand} {k : κ} {vv : ν → Value} {kvs : List (κ × ν)} {b : Bool} [hm : MapT P t K E] [hk : KeyT P K κ] (hz : ZeroT P E (vv z0)) (hM : MapB w r vv kvs) (hx : ev f x = .map (some r)) (hi : ev f ix = KV.kv k) (hu : (aget k kvs).getD z0 = u) (hb : (aget k kvs).isSome = b) (h : R (.tuple #[vv u, .bool b]) w) : opW P f ⟨d, .lookup t x ix true, T, pos, af, gd⟩ w R := by
 subst hb
 exact opW.lookup2Z hz hM hx hi hu h
theorem prog_call (wb w : World) (S : List Ent) (p : Nat) (R : Ready) (s : SlV) (x : XS) (c : Instr) (q : PI) (r : List Role) (hq : c.program = q.p) (hp : c.program.toNat < r.length) {v : Value} (hv : (keyAt r c.program = budK ∧ v = progBV) ∨ (keyAt r c.program = sysK ∧ v = progSV))
  (hS : St wb (blkE p (Enc.enc (⟨R, s, x.units + 150, x.space⟩ : Running)) 107 :: ownE s.v 64 x.l :: S) w) (hr : SlR wb R.roles.v r) (hql : SlR wb c.accounts.v q.ats) (hdl : SlR wb c.data.v q.dt) (hlb : x.l.length ≤ 100000) (hlw : ∀ y ∈ x.l, okW y) :
  FnV Tryd.prog v [.pointer (some ⟨p, 0, none⟩), .agg (Enc.enc c)] w (fun u w' => ∃ s2 : SlV, u = errV (actF r q { x with units := x.units + 150 }).1 ∧ St wb (blkE p (Enc.enc (⟨R, s2, (actF r q { x with units := x.units + 150 }).2.units, (actF r q { x with units := x.units + 150 }).2.space⟩ : Running)) 107 :: ownE s2.v 64 (actF r q { x with units := x.units + 150 }).2.l :: S) w') := by
 rcases hv with ⟨hk, rfl⟩ | ⟨hk, rfl⟩
 ·rw [actF_b (by rw [← hq]; exact hk)]
  refine ⟨_, [], [], rfl, inferInstance, (progB_ok w _ c).mono ?_⟩
  rintro u w' ⟨rfl, hw⟩
  exact ⟨s, rfl, hS.bel hw⟩
 ·rw [actF_s (by rw [← hq]; exact hk)]
  refine ⟨_, [], [], rfl, inferInstance, (progS_ok wb w S p ⟨R, s, x.units + 150, x.space⟩ c x.l r q.ats q.dt hS hr hql hdl hlb hlw).mono ?_⟩
  rintro u w' (⟨he, rfl, hS⟩ | ⟨he, rfl, s2, hS⟩)
  ·rw [if_pos he]
   exact ⟨s, (errV_ne he).symm, hS⟩
  ·rw [if_neg (fun e => e he)]
   exact ⟨s2, rfl, hS⟩

theorem step_ok (wb w0 : World) (S : List Ent) (p i : Nat) (R : Ready) (s : SlV) (x : XS) (c : Instr) (q : PI) (r : List Role) (hS0 : St wb (blkE p (Enc.enc (⟨R, s, x.units, x.space⟩ : Running)) 107 :: ownE s.v 64 x.l :: S) w0) (hr : SlR wb R.roles.v r) (hq : c.program = q.p) (hql : SlR wb c.accounts.v q.ats) (hdl : SlR wb c.data.v q.dt) (hp : c.program.toNat < r.length) (hbu : R.budget.units < 18446744073709551616) (hlb : x.l.length ≤ 100000) (hlw : ∀ y ∈ x.l, okW y) : Ret Tryd.prog 42 #[.pointer (some ⟨p, 0, none⟩), .int .i64 (i : Int), .agg (Enc.enc c)] w0 (fun u w' => ∃ s2 : SlV, u = errV (stepF r R.budget.units R.budget.bad i q x).1 ∧ St wb (blkE p (Enc.enc (⟨R, s2, (stepF r R.budget.units R.budget.bad i q x).2.units, (stepF r R.budget.units R.budget.bad i q x).2.space⟩ : Running)) 107 :: ownE s2.v 64 (stepF r R.budget.units R.budget.bad i q x).2.l :: S) w') := by
 refine Ret.enter (args := [.pointer (some ⟨p, 0, none⟩), .int .i64 (i : Int), .agg (Enc.enc c)]) Tryd.func42 rfl Tryd.ntmps42 Tryd.results42 rfl ?_
 have hS := St.start w0
 replace hS := hS0
 refine WC.seq (fun K1 hK1 => ?_)
 refine WC.region ?_
 refine WL.op rfl (opW.boxA hS rfl ?_)
 intro b5 w _ hS
 refine WL.op rfl (opW.assignV rfl ?_)
 refine WL.nil ?_
 refine thenQ_n (hK1 _ _ ?_)
 refine WC.seq (fun K2 hK2 => ?_)
 refine WC.seq (fun K3 hK3 => ?_)
 refine WC.draw 25 (.look 0 (.look 1 (.look 2 (.look 3 (.look 4 (.look 5 (.look 6 (.look 7 (.look 8 (.look 9 (.look 10 (.look 11 (.look 12 (.look 13 (.look 14 (.look 15 (.look 16 (.look 17 (.look 18 (.look 19 (.look 20 (.look 21 (.look 22 (.look 23 (.look 24 .nil))))))))))))))))))))))))) (by kernel_rfl) (fun _ _ _ h => h) (fun w1 hw1 => ?_)
 replace hS := hS.bel hw1
 have hS1 := hS
 have hT := St.start w1
 refine ML.look rfl rfl rfl (fun w hw => (by have hS := hS1.bel hw; exact opW.moveV (v := .pointer (some ⟨p, 0, none⟩)) rfl ⟨rfl, rfl⟩)) ?_
 refine ML.look rfl rfl rfl (fun w hw => (by have hS := hS1.bel hw; exact opW.nilCheckB rfl ⟨rfl, rfl⟩)) ?_
 refine ML.look rfl rfl rfl (fun w hw => (by have hS := hS1.bel hw; exact opW.fieldAddrB rfl ⟨rfl, rfl⟩)) ?_
 refine ML.look rfl rfl rfl (fun w hw => (by have hS := hS1.bel hw; exact opW.loadV rfl (hS.ld1 (b := p) (cs := Enc.enc (⟨R, s, x.units, x.space⟩ : Running)) (by repeat constructor) (Running.at_units (⟨R, s, x.units, x.space⟩ : Running))) ⟨rfl, rfl⟩)) ?_
 refine ML.look rfl rfl rfl (fun w hw => (by have hS := hS1.bel hw; exact opW.moveV (v := .pointer (some ⟨p, 0, none⟩)) rfl ⟨rfl, rfl⟩)) ?_
 refine ML.look rfl rfl rfl (fun w hw => (by have hS := hS1.bel hw; exact opW.nilCheckB rfl ⟨rfl, rfl⟩)) ?_
 refine ML.look rfl rfl rfl (fun w hw => (by have hS := hS1.bel hw; exact opW.fieldAddrB rfl ⟨rfl, rfl⟩)) ?_
 refine ML.look rfl rfl rfl (fun w hw => (by have hS := hS1.bel hw; exact opW.fieldAddrB rfl ⟨rfl, rfl⟩)) ?_
 refine ML.look rfl rfl rfl (fun w hw => (by have hS := hS1.bel hw; exact opW.fieldAddrB rfl ⟨rfl, rfl⟩)) ?_
 refine ML.look rfl rfl rfl (fun w hw => (by have hS := hS1.bel hw; exact opW.loadV rfl (hS.ld1 (b := p) (cs := Enc.enc (⟨R, s, x.units, x.space⟩ : Running)) (by repeat constructor) (Running.at_bu (⟨R, s, x.units, x.space⟩ : Running))) ⟨rfl, rfl⟩)) ?_
 refine ML.look rfl rfl rfl (fun w hw => (by have hS := hS1.bel hw; exact opW.gtr rfl rfl ⟨rfl, rfl⟩)) ?_
 refine ML.look rfl rfl rfl (fun w hw => (by have hS := hS1.bel hw; exact opW.moveB rfl ⟨rfl, rfl⟩)) ?_
 refine ML.lookG  _ 20 rfl rfl rfl rfl rfl rfl (fun hg21 w hw => (by have hS := hS1.bel hw; exact opW.moveV (v := .pointer (some ⟨p, 0, none⟩)) rfl ⟨rfl, rfl⟩)) ?_
 refine ML.lookG  _ 20 rfl rfl rfl rfl rfl rfl (fun hg22 w hw => (by have hS := hS1.bel hw; exact opW.nilCheckB (by first | exact gv_of rfl hg22 | rfl) ⟨rfl, rfl⟩)) ?_
 refine ML.lookG  _ 20 rfl rfl rfl rfl rfl rfl (fun hg23 w hw => (by have hS := hS1.bel hw; exact opW.fieldAddrB (by first | exact gv_of rfl hg23 | rfl) ⟨rfl, rfl⟩)) ?_
 refine ML.lookG  _ 20 rfl rfl rfl rfl rfl rfl (fun hg24 w hw => (by have hS := hS1.bel hw; exact opW.fieldAddrB (by first | exact gv_of rfl hg24 | rfl) ⟨rfl, rfl⟩)) ?_
 refine ML.lookG  _ 20 rfl rfl rfl rfl rfl rfl (fun hg25 w hw => (by have hS := hS1.bel hw; exact opW.fieldAddrB (by first | exact gv_of rfl hg25 | rfl) ⟨rfl, rfl⟩)) ?_
 refine ML.lookG (E := .int .u64 ((R.budget.units : Nat) : Int)) _ 20 rfl rfl rfl rfl rfl rfl (fun hg26 w hw => (by have hS := hS1.bel hw; exact opW.loadV (by first | exact gv_of rfl hg26 | rfl) (hS.ld1 (b := p) (cs := Enc.enc (⟨R, s, x.units, x.space⟩ : Running)) (by repeat constructor) (Running.at_bu (⟨R, s, x.units, x.space⟩ : Running))) ⟨rfl, rfl⟩)) ?_
 refine ML.lookG  _ 20 rfl rfl rfl rfl rfl rfl (fun hg27 w hw => (by have hS := hS1.bel hw; exact opW.moveV (v := .pointer (some ⟨p, 0, none⟩)) rfl ⟨rfl, rfl⟩)) ?_
 refine ML.lookG  _ 20 rfl rfl rfl rfl rfl rfl (fun hg28 w hw => (by have hS := hS1.bel hw; exact opW.nilCheckB (by first | exact gv_of rfl hg28 | rfl) ⟨rfl, rfl⟩)) ?_
 refine ML.lookG  _ 20 rfl rfl rfl rfl rfl rfl (fun hg29 w hw => (by have hS := hS1.bel hw; exact opW.fieldAddrB (by first | exact gv_of rfl hg29 | rfl) ⟨rfl, rfl⟩)) ?_
 refine ML.lookG (E := .int .u64 ((x.units : Nat) : Int)) _ 20 rfl rfl rfl rfl rfl rfl (fun hg30 w hw => (by have hS := hS1.bel hw; exact opW.loadV (by first | exact gv_of rfl hg30 | rfl) (hS.ld1 (b := p) (cs := Enc.enc (⟨R, s, x.units, x.space⟩ : Running)) (by repeat constructor) (Running.at_units (⟨R, s, x.units, x.space⟩ : Running))) ⟨rfl, rfl⟩)) ?_
 refine ML.lookG (E := .int .u64 ((R.budget.units - x.units : Nat) : Int)) _ 20 rfl rfl rfl rfl rfl rfl (fun hg31 w hw => (by have hS := hS1.bel hw; exact opW.sub (by first | exact gv_of rfl hg31 | rfl) (by first | exact gv_of rfl hg31 | rfl) (nsub (by simp only [beq_iff_eq, decide_eq_false_iff_not] at hg31; omega) hbu) ⟨rfl, rfl⟩)) ?_
 refine ML.lookG  _ 20 rfl rfl rfl rfl rfl rfl (fun hg32 w hw => (by have hS := hS1.bel hw; exact opW.lss (by first | exact gv_of rfl hg32 | rfl) rfl ⟨rfl, rfl⟩)) ?_
 refine ML.look rfl rfl rfl (fun w hw => (by have hS := hS1.bel hw; exact opW.pickOr rfl rfl (by first | rfl) ⟨rfl, rfl⟩)) ?_
 refine ML.nil ?_
 refine thenQ_n (hK3 _ _ ?_)
 refine WC.cond _ rfl (fun hc0 => ?_) (fun hc0 => ?_)
 ·
  have hr0 := hc0
  try simp only [sq1,sq2,sq3,sq4,sq5,sq6,sq7,sq8,sq9,sq0] at hc0
  have hlim : R.budget.units < x.units ∨ R.budget.units - x.units < 150 := by omega
  have hst := stepF_20 (r := r) (bad := R.budget.bad) (i := i) (q := q) hlim
  refine WC.seq (fun K4 hK4 => ?_)
  refine WC.region ?_
  refine WL.op rfl (opW.moveV (v := .pointer (some ⟨p, 0, none⟩)) rfl ?_)
  refine WL.op rfl (opW.moveV (v := .pointer (some ⟨p, 0, none⟩)) rfl ?_)
  refine WL.op rfl (opW.nilCheckB rfl ?_)
  refine WL.op rfl (opW.fieldAddrB rfl ?_)
  refine WL.op rfl (opW.fieldAddrB rfl ?_)
  refine WL.op rfl (opW.fieldAddrB rfl ?_)
  refine WL.op rfl (opW.loadV rfl (hS.ld1 (b := p) (cs := Enc.enc (⟨R, s, x.units, x.space⟩ : Running)) (by repeat constructor) (Running.at_bu (⟨R, s, x.units, x.space⟩ : Running))) ?_)
  refine WL.op rfl (opW.nilCheckB rfl ?_)
  refine WL.op rfl (opW.fieldAddrB rfl ?_)
  refine WL.op0 (opW.storeF (b := p) (o := 49) (v := .int .u64 ((R.budget.units : Nat) : Int)) (sz := 1) (cs := Enc.enc (⟨R, s, x.units, x.space⟩ : Running)) (cs' := Enc.enc (⟨R, s, R.budget.units, x.space⟩ : Running)) hS rfl rfl (by repeat constructor) rfl (by rw [Enc.size_eq]; decide) (one_int _ _) (Running.set_units (⟨R, s, x.units, x.space⟩ : Running) (R.budget.units)) ?_)
  intro w hS; replace hS := hS _ (by repeat constructor)
  refine WL.nil ?_
  refine thenQ_n (hK4 _ _ ?_)
  refine WC.seq (fun K5 hK5 => ?_)
  refine WC.region ?_
  refine WL.op rfl (opW.ifaceI rfl ?_)
  refine WL.op rfl (opW.assignV (v := .iface 33 (.int .i64 20)) rfl ?_)
  refine WL.nil ?_
  refine thenQ_n (hK5 _ _ ?_)
  refine WC.ret ?_
  refine thenQ_r ?_
  refine bodyQ_ret (.tmpV (v := .iface 33 (.int .i64 20)) rfl .nil) ?_
  rw [hst]
  exact ⟨s, rfl, ((hS.pick (e := ownE s.v 64 x.l) (by repeat constructor)).pick (e := blkE p (Enc.enc (⟨R, s, R.budget.units, x.space⟩ : Running)) 107) (by repeat constructor)).sub (by repeat with_reducible first | exact su1 _ | exact su2 _ | refine su3 ?_ | refine su4 ?_)⟩
 ·
  have hr0 := hc0
  try simp only [sq1,sq2,sq3,sq4,sq5,sq6,sq7,sq8,sq9,sq0] at hc0
  have hlim : ¬ (R.budget.units < x.units ∨ R.budget.units - x.units < 150) := by omega
  refine WC.skip ?_
  refine thenQ_n (hK2 _ _ ?_)
  refine WC.seq (fun K6 hK6 => ?_)
  refine WC.seq (fun K7 hK7 => ?_)
  refine WC.region ?_
  refine WL.op rfl (opW.moveV (v := .pointer (some ⟨p, 0, none⟩)) rfl ?_)
  refine WL.op rfl (opW.nilCheckB rfl ?_)
  refine WL.op rfl (opW.fieldAddrB rfl ?_)
  refine WL.op rfl (opW.loadV rfl (hS.ld1 (b := p) (cs := Enc.enc (⟨R, s, x.units, x.space⟩ : Running)) (by repeat constructor) (Running.at_units (⟨R, s, x.units, x.space⟩ : Running))) ?_)
  refine WL.op rfl (opW.add rfl rfl ((show IntKind.u64.wrap ((x.units : Int) + 150) = ((x.units + 150 : Nat) : Int) from nadd (b := 150) (by omega))) ?_)
  refine WL.op rfl (opW.nilCheckB rfl ?_)
  refine WL.op rfl (opW.fieldAddrB rfl ?_)
  refine WL.op0 (opW.storeF (b := p) (o := 49) (v := .int .u64 ((x.units + 150 : Nat) : Int)) (sz := 1) (cs := Enc.enc (⟨R, s, x.units, x.space⟩ : Running)) (cs' := Enc.enc (⟨R, s, x.units + 150, x.space⟩ : Running)) hS rfl rfl (by repeat constructor) rfl (by rw [Enc.size_eq]; decide) (one_int _ _) (Running.set_units (⟨R, s, x.units, x.space⟩ : Running) (x.units + 150)) ?_)
  intro w hS; replace hS := hS _ (by repeat constructor)
  refine WL.nil ?_
  refine thenQ_n (hK7 _ _ ?_)
  refine WC.seq (fun K8 hK8 => ?_)
  refine WC.region ?_
  refine WL.op rfl (opW.moveI rfl ?_)
  refine WL.op rfl (opW.moveV (v := .pointer (some ⟨p, 0, none⟩)) rfl ?_)
  refine WL.op rfl (opW.nilCheckB rfl ?_)
  refine WL.op rfl (opW.fieldAddrB rfl ?_)
  refine WL.op rfl (opW.fieldAddrB rfl ?_)
  refine WL.op rfl (opW.fieldAddrB rfl ?_)
  refine WL.op rfl (opW.loadV rfl (hS.ld1 (b := p) (cs := Enc.enc (⟨R, s, x.units + 150, x.space⟩ : Running)) (by repeat constructor) (Running.at_bad (⟨R, s, x.units + 150, x.space⟩ : Running))) ?_)
  refine WL.op rfl (opW.eql rfl rfl ?_)
  refine WL.nil ?_
  refine thenQ_n (hK8 _ _ ?_)
  refine WC.cond _ rfl (fun hc1 => ?_) (fun hc1 => ?_)
  ·
   have hr1 := hc1
   try simp only [sq1,sq2,sq3,sq4,sq5,sq6,sq7,sq8,sq9,sq0] at hc1
   have hst := stepF_21 (r := r) (q := q) hlim (by simpa using hc1)
   refine WC.seq (fun K9 hK9 => ?_)
   refine WC.region ?_
   refine WL.op rfl (opW.ifaceI rfl ?_)
   refine WL.op rfl (opW.assignV (v := .iface 33 (.int .i64 21)) rfl ?_)
   refine WL.nil ?_
   refine thenQ_n (hK9 _ _ ?_)
   refine WC.ret ?_
   refine thenQ_r ?_
   refine bodyQ_ret (.tmpV (v := .iface 33 (.int .i64 21)) rfl .nil) ?_
   rw [hst]
   exact ⟨s, rfl, ((hS.pick (e := ownE s.v 64 x.l) (by repeat constructor)).pick (e := blkE p (Enc.enc (⟨R, s, x.units + 150, x.space⟩ : Running)) 107) (by repeat constructor)).sub (by repeat with_reducible first | exact su1 _ | exact su2 _ | refine su3 ?_ | refine su4 ?_)⟩
  ·
   have hr1 := hc1
   try simp only [sq1,sq2,sq3,sq4,sq5,sq6,sq7,sq8,sq9,sq0] at hc1
   have hst1 := stepF_act (r := r) (q := q) hlim (by simpa using hc1)
   refine WC.skip ?_
   refine thenQ_n (hK6 _ _ ?_)
   refine WC.seq (fun K10 hK10 => ?_)
   refine WC.draw 17 (.look 1 (.look 2 (.look 3 (.look 4 (.look 5 (.look 6 (.look 7 (.look 8 (.look 9 (.look 10 (.one 0 (.one 11 (.look 12 (.look 13 (.look 14 (.look 15 (.look 16 .nil))))))))))))))))) (by kernel_rfl) (fun _ _ _ h => h) (fun w1 hw1 => ?_)
   replace hS := hS.bel hw1
   have hS1 := hS
   have hT := St.start w1
   obtain ⟨oo, hoo⟩ : ∃ o, progF (keyAt r c.program) = o := ⟨_, rfl⟩
   obtain ⟨fvx, hfv⟩ : ∃ u, oo.getD fz = u := ⟨_, rfl⟩
   refine ML.look rfl rfl rfl (fun w hw => (by have hS := hS1.bel hw; exact opW.moveV (v := .pointer (some ⟨p, 0, none⟩)) rfl ⟨rfl, rfl⟩)) ?_
   refine ML.look rfl rfl rfl (fun w hw => (by have hS := hS1.bel hw; exact opW.nilCheckB rfl ⟨rfl, rfl⟩)) ?_
   refine ML.look rfl rfl rfl (fun w hw => (by have hS := hS1.bel hw; exact opW.fieldAddrB rfl ⟨rfl, rfl⟩)) ?_
   refine ML.look rfl rfl rfl (fun w hw => (by have hS := hS1.bel hw; exact opW.fieldAddrB rfl ⟨rfl, rfl⟩)) ?_
   refine ML.look rfl rfl rfl (fun w hw => (by have hS := hS1.bel hw; exact opW.loadV rfl (hS.ld1 (b := p) (cs := Enc.enc (⟨R, s, x.units + 150, x.space⟩ : Running)) (by repeat constructor) (Running.at_r_roles (⟨R, s, x.units + 150, x.space⟩ : Running))) ⟨rfl, rfl⟩)) ?_
   refine ML.look rfl rfl rfl (fun w hw => (by have hS := hS1.bel hw; exact opW.fieldAddrB rfl ⟨rfl, rfl⟩)) ?_
   refine ML.look rfl rfl rfl (fun w hw => (by have hS := hS1.bel hw; exact opW.loadV rfl (hS.ld1 (b := b5) (cs := Enc.enc c) (by repeat constructor) (Instr.at_program c)) ⟨rfl, rfl⟩)) ?_
   refine ML.look rfl rfl rfl (fun w hw => (by have hS := hS1.bel hw; exact opW.idxV rfl ((hr.bel hS.old)) rfl (by omega) ⟨rfl, rfl⟩)) ?_
   refine ML.look rfl rfl rfl (fun w hw => (by have hS := hS1.bel hw; exact opW.fieldAddr rfl ((hr.bel hS.old).isP hp) ⟨rfl, rfl⟩)) ?_
   refine ML.look rfl rfl rfl (fun w hw => (by have hS := hS1.bel hw; exact opW.loadV rfl (Ld.ptA ((hr.bel hS.old).isPt hp) 0 (Role.ex_key _) (by rw [Enc.size_eq]; decide)) ⟨rfl, rfl⟩)) ?_
   refine ML.one rfl rfl rfl (opW.call (programs_ok _) rfl ?_)
   rintro _ w ⟨kvs, hkv, ⟨r61, rfl, hge, hmb⟩, hw⟩; replace hT := hT.newMap hw hmb hge
   refine ⟨hT.old, ?_⟩
   have hS := hS1.merge hT
   try simp only [List.cons_append, List.nil_append] at hS
   refine ML.one rfl rfl rfl (opW.lookup2ZB (b := oo.isSome) (u := fvx) (κ := Key) (ν := Value) (k := r[c.program.toNat].key) (vv := idV) (kvs := kvs) (z0 := fz) (inferInstanceAs (ZeroT Tryd.prog _ .nilFunc)) (hS.map (by repeat constructor)) rfl rfl (by rw [hkv, ← keyAt_eq hp, hoo]; exact hfv) (by rw [hkv, ← keyAt_eq hp, hoo]) ?_)
   refine ⟨hT.old, ?_⟩
   have hS := hS1.merge hT
   try simp only [List.cons_append, List.nil_append] at hS
   refine ML.look rfl rfl rfl (fun w hw => (by have hS := hS1.bel hw; exact opW.moveV (v := .tuple #[fvx, .bool oo.isSome]) rfl ⟨rfl, rfl⟩)) ?_
   refine ML.look rfl rfl rfl (fun w hw => (by have hS := hS1.bel hw; exact opW.extract rfl rfl ⟨rfl, rfl⟩)) ?_
   refine ML.look rfl rfl rfl (fun w hw => (by have hS := hS1.bel hw; exact opW.extract rfl rfl ⟨rfl, rfl⟩)) ?_
   refine ML.look rfl rfl rfl (fun w hw => (by have hS := hS1.bel hw; exact opW.assignV (v := fvx) rfl ⟨rfl, rfl⟩)) ?_
   refine ML.look rfl rfl rfl (fun w hw => (by have hS := hS1.bel hw; exact opW.assignB rfl ⟨rfl, rfl⟩)) ?_
   refine ML.nil ?_
   refine thenQ_n (hK10 _ _ ?_)
   refine WC.seq (fun K11 hK11 => ?_)
   refine WC.seq (fun K12 hK12 => ?_)
   refine WC.region ?_
   refine WL.op rfl (opW.moveB rfl ?_)
   refine WL.op rfl (opW.not rfl ?_)
   refine WL.nil ?_
   refine thenQ_n (hK12 _ _ ?_)
   refine WC.cond _ rfl (fun hc2 => ?_) (fun hc2 => ?_)
   ·
    have hr2 := hc2
    try simp only [sq1,sq2,sq3,sq4,sq5,sq6,sq7,sq8,sq9,sq0] at hc2
    have hno : progF (keyAt r c.program) = none := by rw [hoo]; cases oo with | none => rfl | some y => cases hr2
    obtain ⟨hn1, hn2⟩ := progF_none (k := keyAt r c.program) (by rw [hno]; rfl)
    have hst := hst1.trans (actF_n (by rw [← hq]; exact hn1) (by rw [← hq]; exact hn2))
    refine WC.seq (fun K13 hK13 => ?_)
    refine WC.region ?_
    refine WL.op rfl (opW.ifaceI rfl ?_)
    refine WL.op rfl (opW.assignV (v := .iface 33 (.int .i64 19)) rfl ?_)
    refine WL.nil ?_
    refine thenQ_n (hK13 _ _ ?_)
    refine WC.ret ?_
    refine thenQ_r ?_
    refine bodyQ_ret (.tmpV (v := .iface 33 (.int .i64 19)) rfl .nil) ?_
    rw [hst]
    exact ⟨s, rfl, ((hS.pick (e := ownE s.v 64 x.l) (by repeat constructor)).pick (e := blkE p (Enc.enc (⟨R, s, x.units + 150, x.space⟩ : Running)) 107) (by repeat constructor)).sub (by repeat with_reducible first | exact su1 _ | exact su2 _ | refine su3 ?_ | refine su4 ?_)⟩
   ·
    have hr2 := hc2
    try simp only [sq1,sq2,sq3,sq4,sq5,sq6,sq7,sq8,sq9,sq0] at hc2
    obtain ⟨y, hy⟩ : ∃ y, oo = some y := by cases oo with | none => cases hr2 | some y => exact ⟨y, rfl⟩
    obtain rfl : fvx = y := by rw [← hfv, hy]; rfl
    refine WC.skip ?_
    refine thenQ_n (hK11 _ _ ?_)
    refine WC.seq (fun K14 hK14 => ?_)
    refine WC.region ?_
    refine WL.op rfl (opW.moveV (v := fvx) rfl ?_)
    refine WL.op rfl (opW.moveV (v := .pointer (some ⟨p, 0, none⟩)) rfl ?_)
    refine WL.op rfl (opW.loadV rfl (hS.ldA (b := b5) (cs := Enc.enc c) (by repeat constructor) (Enc.size_eq c)) ?_)
    refine WL.op rfl (opW.callV rfl (prog_call wb w _ p R s x c q r hq hp (progF_some (hoo.trans hy)) ((hS.pick (e := ownE s.v 64 x.l) (by repeat constructor)).pick (e := blkE p (Enc.enc (⟨R, s, x.units + 150, x.space⟩ : Running)) 107) (by repeat constructor)) hr hql hdl hlb hlw) rfl ?_)
    rintro _ w ⟨s2, rfl, hS⟩
    refine WL.op rfl (opW.assignV (v := errV (actF r q { x with units := x.units + 150 }).1) rfl ?_)
    refine WL.nil ?_
    refine thenQ_n (hK14 _ _ ?_)
    refine WC.ret ?_
    refine bodyQ_ret (.tmpV (v := errV (actF r q { x with units := x.units + 150 }).1) rfl .nil) ?_
    rw [hst1]
    exact ⟨s2, rfl, hS.sub (by repeat with_reducible first | exact su1 _ | exact su2 _ | refine su3 ?_ | refine su4 ?_)⟩

theorem act_okW {l : List Account} {r : List Role} {ats dt : List UInt8} {x : Ask} {a b : Nat} (h : DoOk l r ats dt x a b) (hl : ∀ y ∈ l, okW y) : ∀ y ∈ actL x l a b (l[a]'h.ha) (l[b]'h.hb), okW y := by
 obtain ⟨htag, hxc, hxs⟩ := askF_ok h.ask
 have hact := h.act
 have hA := hl _ (List.getElem_mem h.ha)
 have hB := hl _ (List.getElem_mem h.hb)
 intro y hy
 rcases htag with ht | ht | ht | ht
 ·rw [actL0 ht] at hy
  rcases List.mem_or_eq_of_mem_set hy with hy | rfl
  ·rcases List.mem_or_eq_of_mem_set hy with hy | rfl
   ·exact hl y hy
   ·exact ⟨by have := hA.1; simp only; omega, hA.2⟩
  ·exact ⟨hxc, hxs⟩
 ·rw [actL1 ht] at hy
  rcases List.mem_or_eq_of_mem_set hy with hy | rfl
  ·exact hl y hy
  ·exact hA
 ·rw [actL2 ht] at hy
  rw [actE2 ht] at hact
  obtain ⟨_, _, _, h4⟩ := mvE_ok hact
  unfold mvL at hy
  split at hy
  ·exact hl y hy
  ·rename_i hab
   rcases List.mem_or_eq_of_mem_set hy with hy | rfl
   ·rcases List.mem_or_eq_of_mem_set hy with hy | rfl
    ·exact hl y hy
    ·exact ⟨by have := hA.1; simp only; omega, hA.2⟩
   ·exact ⟨by have := h4 (decide_eq_false hab); simp only; omega, hB.2⟩
 ·rw [actL8 ht] at hy
  rcases List.mem_or_eq_of_mem_set hy with hy | rfl
  ·exact hl y hy
  ·exact ⟨hA.1, hxs⟩
theorem sumC_take {l : List Account} {k : Nat} (hk : k < l.length) : sumC (l.take (k + 1)) = sumC (l.take k) + l[k].coins := by
 rw [List.take_succ_eq_append_getElem hk]
 unfold sumC
 rw [List.map_append, List.sum_append]
 simp only [List.map_cons, List.map_nil, List.sum_cons, List.sum_nil, Nat.add_zero]
theorem sumC_le : ∀ {l : List Account}, (∀ y ∈ l, okW y) → sumC l ≤ l.length * 18446744073709551615
 | [], _ => by simp [sumC]
 | x :: l, h => by
  have ih := sumC_le (l := l) fun y hy => h y (List.mem_cons_of_mem _ hy)
  have := (h x List.mem_cons_self).1
  simp [sumC] at ih ⊢; omega
theorem hi_step {S c : Nat} (hc : c < 18446744073709551616) : (S + c) / 18446744073709551616 = if ((18446744073709551615 - c : Nat) : Int) < ((S % 18446744073709551616 : Nat) : Int) then S / 18446744073709551616 + 1 else S / 18446744073709551616 := by
 split <;> omega
def chB (out l : List Account) (k : Nat) : Bool := decide (out[k]? ≠ l[k]?)
theorem chB_of {out l : List Account} {k : Nat} (h1 : k < out.length) (h2 : k < l.length) : chB out l k = decide (out[k] ≠ l[k]) := by
 unfold chB; rw [List.getElem?_eq_getElem h1, List.getElem?_eq_getElem h2]; simp
theorem count_next {p : Nat → Bool} (k : Nat) : (List.range (k + 1)).countP p = (List.range k).countP p + if p k = true then 1 else 0 := by
 rw [List.range_succ, List.countP_append, List.countP_singleton]
theorem count_le (p : Nat → Bool) (k : Nat) : (List.range k).countP p ≤ k := by
 have := List.countP_le_length (p := p) (l := List.range k); simpa using this

def runL (r : List Role) (bu : Nat) (bad : Int) : List PI → Nat → XS → Int × Nat × XS
 | [], i, x => (0, i, x)
 | q :: qs, i, x => if (stepF r bu bad i q x).1 ≠ 0 then ((stepF r bu bad i q x).1, i, (stepF r bu bad i q x).2) else runL r bu bad qs (i + 1) (stepF r bu bad i q x).2
/-- all instructions: what is wrong first, where, and what there is then -/
def runZ (R : Ready) (r : List Role) (qs : List PI) (l : List Account) : Int × Nat × XS := runL r R.budget.units R.budget.bad qs 0 ⟨0, 0, l⟩
theorem runL_step {r : List Role} {bu : Nat} {bad : Int} {qs : List PI} {k : Nat} {x : XS} (h : k < qs.length) : runL r bu bad (qs.drop k) k x = if (stepF r bu bad k qs[k] x).1 ≠ 0 then ((stepF r bu bad k qs[k] x).1, k, (stepF r bu bad k qs[k] x).2) else runL r bu bad (qs.drop (k + 1)) (k + 1) (stepF r bu bad k qs[k] x).2 := by
 rw [List.drop_eq_getElem_cons h]; rfl
theorem runL_end {r : List Role} {bu : Nat} {bad : Int} {qs : List PI} {k : Nat} {x : XS} (h : qs.length ≤ k) : runL r bu bad (qs.drop k) k x = (0, k, x) := by
 rw [List.drop_of_length_le h]; rfl
theorem stepF_err {r : List Role} {bu : Nat} {bad : Int} {i : Nat} {q : PI} {x : XS} (h : (stepF r bu bad i q x).1 ≠ 0) : (stepF r bu bad i q x).2.l = x.l := by
 by_cases h1 : bu < x.units ∨ bu - x.units < 150
 ·rw [stepF_20 h1]
 ·by_cases h2 : (i : Int) = bad
  ·rw [stepF_21 h1 h2]
  ·rw [stepF_act h1 h2] at h ⊢
   unfold actF at h ⊢
   split
   ·rfl
   ·split
    ·next h3 h4 =>
     rw [if_neg h3, if_pos h4] at h
     split
     ·rfl
     ·next h5 => rw [if_neg h5] at h; exact absurd rfl h
    ·rfl
theorem doF_keeps {l : List Account} {r : List Role} {ats dt : List UInt8} (h : (doF l r ats dt).1 = 0) (hl : ∀ y ∈ l, okW y) : (doF l r ats dt).2.2.length = l.length ∧ ∀ y ∈ (doF l r ats dt).2.2, okW y := by
 obtain ⟨x, a, b, hd⟩ := doF_ok h
 rw [hd.res]
 exact ⟨by have := (coins_ok hd).1; exact this, act_okW hd hl⟩
theorem stepF_keeps {r : List Role} {bu : Nat} {bad : Int} {i : Nat} {q : PI} {x : XS} (hl : ∀ y ∈ x.l, okW y) : (stepF r bu bad i q x).2.l.length = x.l.length ∧ ∀ y ∈ (stepF r bu bad i q x).2.l, okW y := by
 by_cases h1 : bu < x.units ∨ bu - x.units < 150
 ·rw [stepF_20 h1]; exact ⟨rfl, hl⟩
 ·by_cases h2 : (i : Int) = bad
  ·rw [stepF_21 h1 h2]; exact ⟨rfl, hl⟩
  ·rw [stepF_act h1 h2]
   unfold actF
   split
   ·exact ⟨rfl, hl⟩
   ·split
    ·split
     ·exact ⟨rfl, hl⟩
     ·next h5 => exact doF_keeps (l := x.l) (by simpa using h5) hl
    ·exact ⟨rfl, hl⟩
def badArg (r : List Role) (l : List Account) (ins : List Instr) : Bool := !decide (l.length = r.length) || ins.any fun c => decide ((r.length : Int) ≤ (c.program.toNat : Int))
/-- the accounts at the end -/
def accF (R : Ready) (r : List Role) (qs : List PI) (l : List Account) : List Account := if (runZ R r qs l).1 = 0 then (runZ R r qs l).2.2.l else l
def outF (R : Ready) (r : List Role) (qs : List PI) (l : List Account) (s : SlV) : Outcome :=
 ⟨(runZ R r qs l).1, if (runZ R r qs l).1 = 0 then -1 else ((runZ R r qs l).2.1 : Int), (runZ R r qs l).2.2.units, R.fee, if (runZ R r qs l).1 = 0 then (runZ R r qs l).2.2.space else 0, s⟩
def chg1 (p : Role × Account) : Option Holding := if p.1.writes = true then some ⟨p.1.key, p.2⟩ else none
/-- the accounts that are written -/
def chgF (r : List Role) (l : List Account) : List Holding := (r.zip l).filterMap chg1
theorem chgF_step {r : List Role} {l : List Account} {k : Nat} (h1 : k < r.length) (h2 : k < l.length) : chgF (r.take (k + 1)) (l.take (k + 1)) = chgF (r.take k) (l.take k) ++ (if r[k].writes = true then [⟨r[k].key, l[k]⟩] else []) := by
 unfold chgF
 rw [List.take_succ_eq_append_getElem h1, List.take_succ_eq_append_getElem h2, List.zip_append (by simp; omega), List.filterMap_append]
 congr 1
 simp only [List.zip_cons_cons, List.zip_nil_right, List.filterMap_cons, List.filterMap_nil, chg1]
 split
 ·rename_i h; split at h
  ·cases h
  ·rename_i h3; simp [h3]
 ·rename_i h; split at h
  ·rename_i h3; cases h; simp [h3]
  ·cases h
theorem chgF_len (r : List Role) (l : List Account) : (chgF r l).length ≤ r.length := by
 unfold chgF
 refine Nat.le_trans (List.length_filterMap_le _ _) ?_
 simp; omega
theorem chgF_all {r : List Role} {l : List Account} {k : Nat} (h1 : r.length ≤ k) (h2 : l.length ≤ k) : chgF (r.take k) (l.take k) = chgF r l := by rw [List.take_of_length_le h1, List.take_of_length_le h2]
def oz : Outcome := ⟨0, 0, 0, 0, 0, ⟨none, 0, 0⟩⟩
/-- the accounts of a running transaction: its own, or those that were handed in -/
theorem accAt {w0 w : World} {S : List Ent} {v z : Value} {T : TypeId} {y acc : List Account} (hS : St w0 S w) (he : Has (ownE z T y) S) (h : (v = z ∧ acc = y) ∨ SlR w0 v acc) : SlR w v acc := by
 rcases h with ⟨rfl, rfl⟩ | h
 ·exact hS.sl he
 ·exact h.bel hS.old

theorem clip_h (w0 : World) (v : Value) (xs : List Holding) (hx : SlR w0 v xs) : Ret Tryd.prog 44 #[v] w0 (fun u w' => u = cutV v 0 xs.length xs.length (Enc.sz (Holding)) ∧ Bel w0 w') := by
 refine Ret.enter (args := [v]) Tryd.func44 rfl Tryd.ntmps44 Tryd.results44 rfl ?_
 have hS := St.start w0
 refine WC.seq (fun K1 hK1 => ?_)
 refine WC.region ?_
 refine WL.op rfl (opW.assignV (v := .slice none 0 0) rfl ?_)
 refine WL.nil ?_
 refine thenQ_n (hK1 _ _ ?_)
 refine WC.seq (fun K2 hK2 => ?_)
 refine WC.region ?_
 refine WL.op rfl (opW.moveV (v := v) rfl ?_)
 refine WL.op rfl (opW.moveV (v := v) rfl ?_)
 refine WL.op rfl (opW.lenV rfl ((hx.bel hS.old)) ?_)
 refine WL.op rfl (opW.moveV (v := v) rfl ?_)
 refine WL.op rfl (opW.lenV rfl ((hx.bel hS.old)) ?_)
 refine WL.op rfl (opW.cutS (hx.bel hS.old) ⟨⟨_, rfl⟩, hx.cap⟩ ⟨⟨_, rfl⟩, Nat.le_refl _⟩ ⟨rfl, Nat.zero_le _⟩ ?_)
 refine WL.op rfl (opW.assignV rfl ?_)
 refine WL.nil ?_
 refine thenQ_n (hK2 _ _ ?_)
 refine WC.ret ?_
 refine bodyQ_ret (.tmp .nil) ?_
 exact ⟨rfl, hS.old⟩

theorem fit2 {zs : List (Array Value)} {a b : Value} (hl : 2 ≤ zs.length) (h0 : a.cells.size = (zs.getD 0 #[]).size) (h1 : b.cells.size = (zs.getD 1 #[]).size) : partsFit zs [(0, a), (1, b)] := by
 refine ⟨by omega, h0, by rw [List.length_set]; omega, ?_, trivial⟩
 rw [h1]
 simp [List.getD_eq_getElem?_getD]
theorem Turn.same {e : Ent} {S S' : List Ent} (h : Turn e e S S') : S' = S := by
 have h2 : ∀ {e' : Ent} {S S' : List Ent}, Turn e e' S S' → e = e' → S' = S := by
  intro e' S S' h
  induction h with
  | here => intro he; rw [he]
  | there _ ih => intro he; rw [ih he]
 exact h2 h rfl
theorem Pt.sub1 {w : World} {b o : Nat} {cs : Array Value} {v : Value} (hp : Pt w (.pointer (some ⟨b, 0, none⟩)) cs) (hc : cs[o]? = some v) : Pt w (.pointer (some ⟨b, o, none⟩)) #[v] := by
 obtain ⟨b', o', he, h⟩ := hp
 cases he
 refine ⟨b, o, rfl, fun j u hu => ?_⟩
 rcases j with _ | j
 ·simp at hu; subst hu
  have := h o v hc
  simpa using this
 ·simp at hu
theorem as_any {wb w : World} {S : List Ent} {tb : Nat} {o : Outcome} {E : TypeId} (e : Int) (ho : o.fail = 0) (hg : ErrLaid w) (hS : St wb S w) (he : Has (blkE tb (Enc.enc o) E) S) :
  Ret Tryd.prog 43 #[errV e, .iface 112 (.pointer (some ⟨tb, 0, none⟩))] w (fun u w' => u = .bool (decide (e ≠ 0)) ∧ ∀ S', Turn (blkE tb (Enc.enc o) E) (blkE tb (Enc.enc ({ o with fail := e } : Outcome)) E) S S' → St wb S' w') := by
 by_cases h : e = 0
 ·subst h
  rw [errV_0]
  refine (as_none _ w).mono ?_
  rintro u w' ⟨rfl, hw⟩
  refine ⟨rfl, fun S' hT => ?_⟩
  rw [show ({ o with fail := 0 } : Outcome) = o from by cases o; cases ho; rfl] at hT
  rw [hT.same]; exact hS.bel hw
 ·rw [errV_ne h]
  refine (as_ret e hg hS he).mono ?_
  rintro u w' ⟨rfl, hw⟩
  exact ⟨by rw [decide_eq_true h], hw⟩
section
variable {P : Program} {f : Fr} {w : World} {R : Value → World → Prop} {d : Option Tmp} {T : TypeId} {pos : String} {af : Array Edge} {gd : Option (Nat × Bool)}
theorem opW.ifaceP {s E : TypeId} {x : Operand} {v : Value} [ha : PtrT P s E] (hx : ev f x = v) (h : R (.iface s v) w) : opW P f ⟨d, .makeInterface s x, T, pos, af, gd⟩ w R := by
 refine opW.of_run (v := .iface s v) (w' := w) ?_ h
 have h1 : P.concrete s = true := by
  have h2 := ha.out
  unfold Program.concrete
  simp [h2]
 simp [Go.execOp, hx, run_makeInterface, h1]
end

theorem zOut : (joinA [#[.int .i64 0], #[.int .i64 0], #[.int .u64 0], #[.int .u64 0], #[.int .u64 0], #[.slice none 0 0]]) = Enc.enc (oz : Outcome) := by
 simp only [Outcome.enc_eq, Outcome.parts, enc_vz, oz]; rfl

set_option maxRecDepth 20000 in
set_option maxHeartbeats 1200000 in
theorem run_ok (w0 : World) (R : Ready) (sl : SlV) (l : List Account) (r : List Role) (ins : List Instr) (qs : List PI) (hg : ErrLaid w0) (hl : SlR w0 sl.v l) (hr : SlR w0 R.roles.v r) (hi : SlR w0 R.tx.m.instrs.v ins) (hql : ins.length = qs.length) (hin : ∀ k (h : k < ins.length) (h2 : k < qs.length), InIs w0 ins[k] qs[k]) (hbu : R.budget.units < 18446744073709551616) (hlb : l.length ≤ 100000) (hrb : r.length ≤ 100000) (hlw : ∀ y ∈ l, okW y) : Ret Tryd.prog 18 #[.agg (Enc.enc R), sl.v] w0 (fun u w' => (badArg r l ins = true ∧ u = .tuple #[.agg (Enc.enc oz), .int .i64 1] ∧ Bel w0 w') ∨ (badArg r l ins = false ∧ ∃ s : SlV, u = .tuple #[.agg (Enc.enc (outF R r qs l s)), .int .i64 0] ∧ New w0 w' s.v 66 (chgF r (accF R r qs l)) ∧ Bel w0 w')) := by
  refine Ret.enter (args := [.agg (Enc.enc R), sl.v]) Tryd.func18 rfl Tryd.ntmps18 Tryd.results18 rfl ?_
  have hS := St.start w0
  refine WC.seq (fun K1 hK1 => ?_)
  refine WC.region ?_
  refine WL.op rfl (opW.boxA hS rfl ?_)
  intro b2 w _ hS
  refine WL.op rfl (opW.allocA hS ?_)
  intro b4 w _ hS
  refine WL.op rfl (opW.assignI rfl ?_)
  rw [zOut] at hS
  refine WL.nil ?_
  refine thenQ_n (hK1 _ _ ?_)
  refine WC.seq (fun K2 hK2 => ?_)
  refine WC.region ?_
  refine WL.op rfl (opW.makeFn (vs := []) (cs := [.pointer (some ⟨b2, 0, none⟩)]) rfl rfl ?_)
  refine WL.op rfl (opW.assignV (v := (.func (.func 39) #[] #[.pointer (some ⟨b2, 0, none⟩)])) rfl ?_)
  refine WL.nil ?_
  refine thenQ_n (hK2 _ _ ?_)
  refine WC.seq (fun K3 hK3 => ?_)
  refine WC.seq (fun K4 hK4 => ?_)
  refine WC.region ?_
  refine WL.op rfl (opW.moveV (v := sl.v) rfl ?_)
  refine WL.op rfl (opW.lenV rfl ((hl.bel hS.old)) ?_)
  refine WL.op rfl (opW.fieldAddrB rfl ?_)
  refine WL.op rfl (opW.loadV rfl (hS.ld1 (b := b2) (cs := Enc.enc R) (by repeat constructor) (Ready.at_roles R)) ?_)
  refine WL.op rfl (opW.lenV rfl ((hr.bel hS.old)) ?_)
  refine WL.op rfl (opW.neq rfl rfl ?_)
  refine WL.op rfl (opW.moveB rfl ?_)
  refine WL.gd _ 21 _ rfl rfl rfl rfl (fun hg22 => opW.fieldAddrB rfl ⟨rfl, Bel.refl _⟩) (fun w hw => ?_)
  replace hS := hS.bel hw
  refine WL.gd _ 21 _ rfl rfl rfl rfl (fun hg23 => opW.fieldAddrB (by first | exact gv_of rfl hg23 | rfl) ⟨rfl, Bel.refl _⟩) (fun w hw => ?_)
  replace hS := hS.bel hw
  refine WL.gd _ 21 _ rfl rfl rfl rfl (fun hg24 => opW.fieldAddrB (by first | exact gv_of rfl hg24 | rfl) ⟨rfl, Bel.refl _⟩) (fun w hw => ?_)
  replace hS := hS.bel hw
  refine WL.gd _ 21 R.tx.m.instrs.v rfl rfl rfl rfl (fun hg25 => ?_) (fun w hw => ?_)
  · refine opW.loadV (by first | exact gv_of rfl hg25 | rfl) (hS.ld1 (b := b2) (cs := Enc.enc R) (by repeat constructor) (Ready.at_ins R)) ⟨rfl, Bel.refl _⟩
  replace hS := hS.bel hw
  refine WL.gd _ 21 _ rfl rfl rfl rfl (fun hg26 => opW.moveV (v := (.func (.func 39) #[] #[.pointer (some ⟨b2, 0, none⟩)])) rfl ⟨rfl, Bel.refl _⟩) (fun w hw => ?_)
  replace hS := hS.bel hw
  refine WL.gd _ 21 (.bool (ins.any fun c => decide ((r.length : Int) ≤ (c.program.toNat : Int)))) rfl rfl rfl rfl (fun hg27 => ?_) (fun w hw => ?_)
  · refine opW.call (containsI_ok _ R.tx.m.instrs.v (.func (.func 39) #[] #[.pointer (some ⟨b2, 0, none⟩)]) ins (fun c => decide ((r.length : Int) ≤ (c.program.toNat : Int))) (hi.bel hS.old) (fun w' h c _ => ⟨_, [], [.pointer (some ⟨b2, 0, none⟩)], rfl, inferInstance, beyondR_ok w' b2 R.roles.v r c (((hS.pt (b := b2) (cs := Enc.enc R) (by repeat constructor)).bel h).sub1 (Ready.at_roles R)) (hr.bel (hS.old.trans h))⟩)) (args2 (by first | exact gv_of rfl hg27 | rfl) (by first | exact gv_of rfl hg27 | rfl)) ?_
    rintro v w ⟨rfl, hw⟩; replace hS := hS.bel hw
    exact ⟨rfl, ‹_›⟩
  replace hS := hS.bel hw
  refine WL.op rfl (opW.pickOr rfl rfl (by first | rfl) ?_)
  refine WL.nil ?_
  refine thenQ_n (hK4 _ _ ?_)
  refine WC.cond _ rfl (fun hc0 => ?_) (fun hc0 => ?_)
  ·
    have hr0 := hc0
    try simp only [sq1,sq2,sq3,sq4,sq5,sq6,sq7,sq8,sq9,sq0] at hc0
    refine WC.seq (fun K5 hK5 => ?_)
    refine WC.region ?_
    refine WL.op rfl (opW.buildE (r := (oz : Outcome)) (ps := Outcome.parts (oz : Outcome)) (Outcome.enc_eq _) (by first | rfl | (simp only [sysK, az, budK, enc_vset, enc_vz, Account.enc_eq, Account.parts, Role.enc_eq, Role.parts, Instr.enc_eq, Instr.parts, Ask.enc_eq, Ask.parts, Cut.enc_eq, Cut.parts, PairS.enc_eq, PairS.parts, Header.enc_eq, Header.parts, Lookup.enc_eq, Lookup.parts, Message.enc_eq, Message.parts, Tx.enc_eq, Tx.parts, Budget.enc_eq, Budget.parts, Ready.enc_eq, Ready.parts, Holding.enc_eq, Holding.parts, Outcome.enc_eq, Outcome.parts, Running.enc_eq, Running.parts, StS.enc_eq, StS.parts]; rfl)) (by (repeat' (first | exact trivial | refine And.intro ?_ ?_)) <;> first | rfl | exact Enc.size_eq _ | (simp; done)) ?_)
    refine WL.op0 (opW.storeE hS rfl rfl (by repeat constructor) (by first | rfl | exact Enc.size_eq _) ?_)
    intro w hS; replace hS := hS _ (by repeat constructor)
    refine WL.op rfl (opW.assignI rfl ?_)
    refine WL.nil ?_
    refine thenQ_n (hK5 _ _ ?_)
    refine WC.ret ?_
    refine thenQ_r ?_
    refine bodyQ_ret (.cell (by first | exact hS.ldA (by repeat constructor) (by first | rfl | exact Enc.size_eq _) | exact hS.ld1 (by repeat constructor) rfl) (.tmpI rfl .nil)) ?_
    refine .inl ⟨?_, rfl, hS.old⟩
    unfold badArg
    rw [← hr0]
    congr 2
    exact decide_eq_decide.2 (by omega)
  ·
    have hr0 := hc0
    try simp only [sq1,sq2,sq3,sq4,sq5,sq6,sq7,sq8,sq9,sq0] at hc0
    have hbad : badArg r l ins = false := by
      unfold badArg
      rw [← hr0]
      congr 2
      exact decide_eq_decide.2 (by omega)
    have hlen : l.length = r.length := by unfold badArg at hbad; simp at hbad; exact hbad.1
    have hpr : ∀ k (h : k < ins.length), ins[k].program.toNat < r.length := by
      intro k h
      unfold badArg at hbad
      have h2 := (Bool.or_eq_false_iff.1 hbad).2
      have h3 := List.any_eq_false.1 h2 ins[k] (List.getElem_mem h)
      simp only [decide_eq_true_eq] at h3
      omega
    have hile := hi.le
    have hrle := hr.le
    simp only [maxLen] at hile hrle
    refine WC.skip ?_
    refine thenQ_n (hK3 _ _ ?_)
    refine WC.mid (fun f w => ∃ (b34 b8 : Nat) (s0 : SlV), Fits [(1, sl.v), (2, .pointer (some ⟨b2, 0, none⟩)), (4, .pointer (some ⟨b4, 0, none⟩)), (7, .pointer (some ⟨b34, 0, none⟩)), (8, .pointer (some ⟨b8, 0, none⟩))] f ∧ St w0 [blkE b8 (Enc.enc (⟨0, -1, 0, R.fee, 0, ⟨none, 0, 0⟩⟩ : Outcome)) 59, blkE b34 (Enc.enc (⟨R, s0, 0, 0⟩ : Running)) 107, ownE s0.v 64 l, blkE b2 (Enc.enc R) 56, blkE b4 (Enc.enc oz) 59] w) ?_ ?_
    ·
      refine WC.draw 10 (.look 0 (.look 1 (.look 5 (.look 6 (.look 7 (.fork 2 8 (.look 3 (.fork 4 8 (.one 8 (.look 9 (.one 10 .nil))) (.one 4 (.look 9 (.one 10 .nil))))) (.one 2 (.look 3 (.one 4 (.look 9 (.one 10 .nil))))))))))) (by kernel_rfl) (fun _ _ _ h => h) (fun w1 hw1 => ?_)
      replace hS := hS.bel hw1
      have hS1 := hS
      have hT := St.start w1
      refine ML.look rfl rfl rfl (fun w hw => (by have hS := hS1.bel hw; exact opW.loadV rfl (hS.ldA (b := b2) (cs := Enc.enc R) (by repeat constructor) (Enc.size_eq R)) ⟨rfl, rfl⟩)) ?_
      refine ML.look rfl rfl rfl (fun w hw => (by have hS := hS1.bel hw; exact opW.moveV (v := sl.v) rfl ⟨rfl, rfl⟩)) ?_
      refine ML.look rfl rfl rfl (fun w hw => (by have hS := hS1.bel hw; exact opW.fieldAddrB rfl ⟨rfl, rfl⟩)) ?_
      refine ML.look rfl rfl rfl (fun w hw => (by have hS := hS1.bel hw; exact opW.loadV rfl (hS.ld1 (b := b2) (cs := Enc.enc R) (by repeat constructor) (Ready.at_fee R)) ⟨rfl, rfl⟩)) ?_
      refine ML.look rfl rfl rfl (fun w hw => (by have hS := hS1.bel hw; exact opW.buildE (r := ((⟨0, -1, 0, R.fee, 0, ⟨none, 0, 0⟩⟩ : Outcome) : Outcome)) (ps := Outcome.parts ((⟨0, -1, 0, R.fee, 0, ⟨none, 0, 0⟩⟩ : Outcome) : Outcome)) (Outcome.enc_eq _) (by first | rfl | (simp only [sysK, az, budK, enc_vset, enc_vz, Account.enc_eq, Account.parts, Role.enc_eq, Role.parts, Instr.enc_eq, Instr.parts, Ask.enc_eq, Ask.parts, Cut.enc_eq, Cut.parts, PairS.enc_eq, PairS.parts, Header.enc_eq, Header.parts, Lookup.enc_eq, Lookup.parts, Message.enc_eq, Message.parts, Tx.enc_eq, Tx.parts, Budget.enc_eq, Budget.parts, Ready.enc_eq, Ready.parts, Holding.enc_eq, Holding.parts, Outcome.enc_eq, Outcome.parts, Running.enc_eq, Running.parts, StS.enc_eq, StS.parts]; rfl)) (by (repeat' (first | exact trivial | refine And.intro ?_ ?_)) <;> first | rfl | exact Enc.size_eq _ | (simp; done)) ⟨rfl, rfl⟩)) ?_
      refine ML.fork rfl rfl rfl rfl ?_ ?_ 
      · refine opW.call (clone_a _ _ l (hl.bel hS.old) hlb) rfl ?_
        rintro v32 w ⟨hn32, hw⟩; replace hT := hT.newOwn hw hn32.1 hn32.2
        obtain ⟨s0, rfl⟩ := (hn32.1.sl).asV
        refine ⟨hT.old, ?_⟩
        have hS := hS1.merge hT
        try simp only [List.cons_append, List.nil_append] at hS
        refine ML.look rfl rfl rfl (fun w hw => (by have hS := hS1.bel hw; exact opW.buildE (r := (⟨R, s0, 0, 0⟩ : Running)) (ps := Running.parts (⟨R, s0, 0, 0⟩ : Running)) (Running.enc_eq _) (by show setParts _ [(0, .agg (Enc.enc R)), (1, s0.v)] = _; rfl) (by exact fit2 (a := .agg (Enc.enc R)) (b := s0.v) (by decide) (Enc.size_eq R) rfl) ⟨rfl, rfl⟩)) ?_
        refine ML.fork rfl rfl rfl rfl ?_ ?_ 
        · refine opW.boxA hT rfl ?_
          intro b34 w hw hT
          refine ⟨hT.old, ?_⟩
          have hS := hS1.merge hT
          try simp only [List.cons_append, List.nil_append] at hS
          refine ML.one rfl rfl rfl (opW.allocA hT ?_)
          intro b8 w hw hT
          refine ⟨hT.old, ?_⟩
          have hS := hS1.merge hT
          try simp only [List.cons_append, List.nil_append] at hS
          refine ML.look rfl rfl rfl (fun w hw => (by have hS := hS1.bel hw; exact opW.assignV (v := .pointer (some ⟨b34, 0, none⟩)) rfl ⟨rfl, rfl⟩)) ?_
          refine ML.put0 rfl rfl rfl (opW.storeE hS rfl rfl (by repeat constructor) (by first | rfl | exact Enc.size_eq _) ?_)
          intro w hS; replace hS := hS _ (by repeat constructor)
          refine ML.nil ?_
          refine thenQ_n ?_
          exact ⟨b34, b8, s0, ⟨rfl, rfl, rfl, rfl, rfl, trivial⟩, (((((hS.pick (e := blkE b4 (Enc.enc oz) 59) (by repeat constructor)).pick (e := blkE b2 (Enc.enc R) 56) (by repeat constructor)).pick (e := ownE s0.v 64 l) (by repeat constructor)).pick (e := blkE b34 (Enc.enc (⟨R, s0, 0, 0⟩ : Running)) 107) (by repeat constructor)).pick (e := blkE b8 (Enc.enc (⟨0, -1, 0, R.fee, 0, ⟨none, 0, 0⟩⟩ : Outcome)) 59) (by repeat constructor)).sub (by repeat with_reducible first | exact su1 _ | exact su2 _ | refine su3 ?_ | refine su4 ?_)⟩
        · refine opW.allocA hT ?_
          intro b8 w hw hT
          refine ⟨hT.old, ?_⟩
          have hS := hS1.merge hT
          try simp only [List.cons_append, List.nil_append] at hS
          refine ML.one rfl rfl rfl (opW.boxA hT rfl ?_)
          intro b34 w hw hT
          refine ⟨hT.old, ?_⟩
          have hS := hS1.merge hT
          try simp only [List.cons_append, List.nil_append] at hS
          refine ML.look rfl rfl rfl (fun w hw => (by have hS := hS1.bel hw; exact opW.assignV (v := .pointer (some ⟨b34, 0, none⟩)) rfl ⟨rfl, rfl⟩)) ?_
          refine ML.put0 rfl rfl rfl (opW.storeE hS rfl rfl (by repeat constructor) (by first | rfl | exact Enc.size_eq _) ?_)
          intro w hS; replace hS := hS _ (by repeat constructor)
          refine ML.nil ?_
          refine thenQ_n ?_
          exact ⟨b34, b8, s0, ⟨rfl, rfl, rfl, rfl, rfl, trivial⟩, (((((hS.pick (e := blkE b4 (Enc.enc oz) 59) (by repeat constructor)).pick (e := blkE b2 (Enc.enc R) 56) (by repeat constructor)).pick (e := ownE s0.v 64 l) (by repeat constructor)).pick (e := blkE b34 (Enc.enc (⟨R, s0, 0, 0⟩ : Running)) 107) (by repeat constructor)).pick (e := blkE b8 (Enc.enc (⟨0, -1, 0, R.fee, 0, ⟨none, 0, 0⟩⟩ : Outcome)) 59) (by repeat constructor)).sub (by repeat with_reducible first | exact su1 _ | exact su2 _ | refine su3 ?_ | refine su4 ?_)⟩
      · refine opW.allocA hT ?_
        intro b8 w hw hT
        refine ⟨hT.old, ?_⟩
        have hS := hS1.merge hT
        try simp only [List.cons_append, List.nil_append] at hS
        refine ML.one rfl rfl rfl (opW.call (clone_a _ _ l (hl.bel hS.old) hlb) rfl ?_)
        rintro v32 w ⟨hn32, hw⟩; replace hT := hT.newOwn hw hn32.1 hn32.2
        obtain ⟨s0, rfl⟩ := (hn32.1.sl).asV
        refine ⟨hT.old, ?_⟩
        have hS := hS1.merge hT
        try simp only [List.cons_append, List.nil_append] at hS
        refine ML.look rfl rfl rfl (fun w hw => (by have hS := hS1.bel hw; exact opW.buildE (r := (⟨R, s0, 0, 0⟩ : Running)) (ps := Running.parts (⟨R, s0, 0, 0⟩ : Running)) (Running.enc_eq _) (by show setParts _ [(0, .agg (Enc.enc R)), (1, s0.v)] = _; rfl) (by exact fit2 (a := .agg (Enc.enc R)) (b := s0.v) (by decide) (Enc.size_eq R) rfl) ⟨rfl, rfl⟩)) ?_
        refine ML.one rfl rfl rfl (opW.boxA hT rfl ?_)
        intro b34 w hw hT
        refine ⟨hT.old, ?_⟩
        have hS := hS1.merge hT
        try simp only [List.cons_append, List.nil_append] at hS
        refine ML.look rfl rfl rfl (fun w hw => (by have hS := hS1.bel hw; exact opW.assignV (v := .pointer (some ⟨b34, 0, none⟩)) rfl ⟨rfl, rfl⟩)) ?_
        refine ML.put0 rfl rfl rfl (opW.storeE hS rfl rfl (by repeat constructor) (by first | rfl | exact Enc.size_eq _) ?_)
        intro w hS; replace hS := hS _ (by repeat constructor)
        refine ML.nil ?_
        refine thenQ_n ?_
        exact ⟨b34, b8, s0, ⟨rfl, rfl, rfl, rfl, rfl, trivial⟩, (((((hS.pick (e := blkE b4 (Enc.enc oz) 59) (by repeat constructor)).pick (e := blkE b2 (Enc.enc R) 56) (by repeat constructor)).pick (e := ownE s0.v 64 l) (by repeat constructor)).pick (e := blkE b34 (Enc.enc (⟨R, s0, 0, 0⟩ : Running)) 107) (by repeat constructor)).pick (e := blkE b8 (Enc.enc (⟨0, -1, 0, R.fee, 0, ⟨none, 0, 0⟩⟩ : Outcome)) 59) (by repeat constructor)).sub (by repeat with_reducible first | exact su1 _ | exact su2 _ | refine su3 ?_ | refine su4 ?_)⟩
    ·
      rintro f w ⟨b34, b8, s0, hfit, hS⟩
      refine WC.fits _ hfit (fun g => ?_)
      clear hfit
      refine WC.mid (fun f w =>  Fits [(2, .pointer (some ⟨b2, 0, none⟩)), (4, .pointer (some ⟨b4, 0, none⟩)), (7, .pointer (some ⟨b34, 0, none⟩)), (8, .pointer (some ⟨b8, 0, none⟩))] f ∧ ∃ (z : Int × Nat × XS) (sa : SlV) (zv : Value) (zy : List Account) (zat : Int) (zsp : Nat), runZ R r qs l = z ∧ zat = (if z.1 = 0 then -1 else (z.2.1 : Int)) ∧ zsp = (if z.1 = 0 then z.2.2.space else 0) ∧ ((sa.v = zv ∧ accF R r qs l = zy) ∨ SlR w0 sa.v (accF R r qs l)) ∧ (accF R r qs l).length = l.length ∧ St w0 [blkE b8 (Enc.enc (⟨z.1, zat, 0, R.fee, 0, ⟨none, 0, 0⟩⟩ : Outcome)) 59, blkE b34 (Enc.enc (⟨R, sa, z.2.2.units, zsp⟩ : Running)) 107, ownE zv 64 zy, blkE b2 (Enc.enc R) 56, blkE b4 (Enc.enc oz) 59] w) ?_ ?_
      ·
        refine WC.seq (fun K6 hK6 => ?_)
        refine WC.region ?_
        refine WL.op rfl (opW.fieldAddrB rfl ?_)
        refine WL.op rfl (opW.fieldAddrB rfl ?_)
        refine WL.op rfl (opW.fieldAddrB rfl ?_)
        refine WL.op rfl (opW.loadV rfl (hS.ld1 (b := b2) (cs := Enc.enc R) (by repeat constructor) (Ready.at_ins R)) ?_)
        refine WL.op rfl (opW.lenV rfl ((hi.bel hS.old)) ?_)
        refine WL.op rfl (opW.moveI rfl ?_)
        refine WL.nil ?_
        refine thenQ_n (hK6 _ _ ?_)
        refine WC.block ?_
        refine WC.loop (fun m f w => ∃ (k : Nat) (s : SlV) (x : XS), Fits [(1, sl.v), (2, .pointer (some ⟨b2, 0, none⟩)), (4, .pointer (some ⟨b4, 0, none⟩)), (7, .pointer (some ⟨b34, 0, none⟩)), (8, .pointer (some ⟨b8, 0, none⟩)), (41, R.tx.m.instrs.v), (42, .int .i64 (ins.length : Int)), (43, .int .i64 (k : Int))] f ∧ St w0 [blkE b8 (Enc.enc (⟨0, -1, 0, R.fee, 0, ⟨none, 0, 0⟩⟩ : Outcome)) 59, blkE b34 (Enc.enc (⟨R, s, x.units, x.space⟩ : Running)) 107, ownE s.v 64 x.l, blkE b2 (Enc.enc R) 56, blkE b4 (Enc.enc oz) 59] w ∧ runL r R.budget.units R.budget.bad (qs.drop k) k x = (runZ R r qs l) ∧ x.l.length = l.length ∧ (∀ y ∈ x.l, okW y) ∧ k ≤ ins.length ∧ m = ins.length - k) (ins.length) ?_ ?_
        ·
          exact ⟨0, s0, ⟨0, 0, l⟩, ⟨rfl, rfl, rfl, rfl, rfl, rfl, rfl, rfl, trivial⟩, (((((hS.pick (e := blkE b4 (Enc.enc oz) 59) (by repeat constructor)).pick (e := blkE b2 (Enc.enc R) 56) (by repeat constructor)).pick (e := ownE s0.v 64 l) (by repeat constructor)).pick (e := blkE b34 (Enc.enc (⟨R, s0, 0, 0⟩ : Running)) 107) (by repeat constructor)).pick (e := blkE b8 (Enc.enc (⟨0, -1, 0, R.fee, 0, ⟨none, 0, 0⟩⟩ : Outcome)) 59) (by repeat constructor)).sub (by repeat with_reducible first | exact su1 _ | exact su2 _ | refine su3 ?_ | refine su4 ?_), rfl, rfl, hlw, Nat.zero_le _, rfl⟩
        ·
          rintro m f w ⟨k, s, x, hfit, hS, hinv, hxl, hxw, hk0, hm⟩
          refine WC.fits _ hfit (fun g => ?_)
          clear hfit
          refine WC.seq (fun K7 hK7 => ?_)
          refine WC.region ?_
          refine WL.op rfl (opW.lss rfl rfl ?_)
          refine WL.nil ?_
          refine thenQ_n (hK7 _ _ ?_)
          refine WC.seq (fun K8 hK8 => ?_)
          refine WC.cond _ rfl (fun hc1 => ?_) (fun hc1 => ?_)
          ·
            have hr1 := hc1
            try simp only [sq1,sq2,sq3,sq4,sq5,sq6,sq7,sq8,sq9,sq0] at hc1
            have hkl : k < ins.length := by omega
            have hkq : k < qs.length := by omega
            obtain ⟨hq1, hq2, hq3⟩ := hin k hkl hkq
            refine WC.skip ?_
            refine thenQ_n (hK8 _ _ ?_)
            refine WC.seq (fun K9 hK9 => ?_)
            refine WC.block ?_
            refine WC.seq (fun K10 hK10 => ?_)
            refine WC.region ?_
            refine WL.op rfl (opW.moveI rfl ?_)
            refine WL.op rfl (opW.idxV rfl ((hi.bel hS.old)) rfl (by omega) ?_)
            refine WL.op rfl (opW.loadV rfl (((hi.bel hS.old).isPt hkl).ldA (Enc.size_eq ins[k])) ?_)
            refine WL.op rfl (opW.allocA hS ?_)
            intro b10 w _ hS
            refine WL.op rfl (opW.assignI rfl ?_)
            refine WL.op0 (opW.storeE hS rfl rfl (by repeat constructor) (by first | rfl | exact Enc.size_eq _) ?_)
            intro w hS; replace hS := hS _ (by repeat constructor)
            refine WL.nil ?_
            refine thenQ_n (hK10 _ _ ?_)
            refine WC.seq (fun K11 hK11 => ?_)
            refine WC.region ?_
            refine WL.op rfl (opW.moveV (v := .pointer (some ⟨b34, 0, none⟩)) rfl ?_)
            refine WL.op rfl (opW.moveI rfl ?_)
            refine WL.op rfl (opW.loadV rfl (hS.ldA (b := b10) (cs := Enc.enc ins[k]) (by repeat constructor) (Enc.size_eq ins[k])) ?_)
            refine WL.op rfl (opW.call (step_ok w0 _ _ b34 k R s x ins[k] qs[k] r ((hS.pick (e := ownE s.v 64 x.l) (by repeat constructor)).pick (e := blkE b34 (Enc.enc (⟨R, s, x.units, x.space⟩ : Running)) 107) (by repeat constructor)) hr hq1 hq2 hq3 (hpr k hkl) hbu (by omega) hxw) rfl ?_)
            rintro _ w ⟨s2, rfl, hS⟩
            refine WL.op rfl (opW.assignV (v := errV (stepF r R.budget.units R.budget.bad k qs[k] x).1) rfl ?_)
            refine WL.nil ?_
            refine thenQ_n (hK11 _ _ ?_)
            refine WC.seq (fun K12 hK12 => ?_)
            refine WC.region ?_
            refine WL.op rfl (opW.moveV (v := errV (stepF r R.budget.units R.budget.bad k qs[k] x).1) rfl ?_)
            refine WL.op rfl (opW.fieldAddrB rfl ?_)
            refine WL.op rfl (opW.ifaceP rfl ?_)
            refine WL.op rfl (opW.call (as_any (o := (⟨0, -1, 0, R.fee, 0, ⟨none, 0, 0⟩⟩ : Outcome)) (stepF r R.budget.units R.budget.bad k qs[k] x).1 rfl (hg.bel hS.old) hS (by repeat constructor)) rfl ?_)
            rintro _ w ⟨rfl, hS⟩; replace hS := hS _ (by repeat constructor)
            refine WL.nil ?_
            refine thenQ_n (hK12 _ _ ?_)
            refine WC.cond _ rfl (fun hc2 => ?_) (fun hc2 => ?_)
            ·
              have hr2 := hc2
              try simp only [sq1,sq2,sq3,sq4,sq5,sq6,sq7,sq8,sq9,sq0] at hc2
              have he1 : (stepF r R.budget.units R.budget.bad k qs[k] x).1 ≠ 0 := hc2
              rw [runL_step hkq, if_pos he1] at hinv
              refine WC.seq (fun K13 hK13 => ?_)
              refine WC.region ?_
              refine WL.op rfl (opW.moveV (v := .pointer (some ⟨b34, 0, none⟩)) rfl ?_)
              refine WL.op rfl (opW.moveV (v := .pointer (some ⟨b34, 0, none⟩)) rfl ?_)
              refine WL.op rfl (opW.moveV (v := sl.v) rfl ?_)
              refine WL.op rfl (opW.moveI rfl ?_)
              refine WL.op rfl (opW.nilCheckB rfl ?_)
              refine WL.op rfl (opW.fieldAddrB rfl ?_)
              refine WL.op0 (opW.storeF (b := b34) (o := 48) (v := sl.v) (sz := 1) (cs := Enc.enc (⟨R, s2, (stepF r R.budget.units R.budget.bad k qs[k] x).2.units, (stepF r R.budget.units R.budget.bad k qs[k] x).2.space⟩ : Running)) (cs' := Enc.enc (⟨R, sl, (stepF r R.budget.units R.budget.bad k qs[k] x).2.units, (stepF r R.budget.units R.budget.bad k qs[k] x).2.space⟩ : Running)) hS rfl rfl (by repeat constructor) rfl (by rw [Enc.size_eq]; decide) (Enc.one (α := SlV) sl) (Running.set_l (⟨R, s2, (stepF r R.budget.units R.budget.bad k qs[k] x).2.units, (stepF r R.budget.units R.budget.bad k qs[k] x).2.space⟩ : Running) sl) ?_)
              intro w hS; replace hS := hS _ (by repeat constructor)
              refine WL.op rfl (opW.nilCheckB rfl ?_)
              refine WL.op rfl (opW.fieldAddrB rfl ?_)
              refine WL.op0 (opW.storeF (b := b34) (o := 50) (v := .int .u64 ((0 : Nat) : Int)) (sz := 1) (cs := Enc.enc (⟨R, sl, (stepF r R.budget.units R.budget.bad k qs[k] x).2.units, (stepF r R.budget.units R.budget.bad k qs[k] x).2.space⟩ : Running)) (cs' := Enc.enc (⟨R, sl, (stepF r R.budget.units R.budget.bad k qs[k] x).2.units, 0⟩ : Running)) hS rfl rfl (by repeat constructor) rfl (by rw [Enc.size_eq]; decide) (one_int _ _) (Running.set_space (⟨R, sl, (stepF r R.budget.units R.budget.bad k qs[k] x).2.units, (stepF r R.budget.units R.budget.bad k qs[k] x).2.space⟩ : Running) 0) ?_)
              intro w hS; replace hS := hS _ (by repeat constructor)
              refine WL.op rfl (opW.fieldAddrB rfl ?_)
              refine WL.op0 (opW.storeF (b := b8) (o := 1) (v := .int .i64 (k : Int)) (sz := 1) (cs := Enc.enc (⟨(stepF r R.budget.units R.budget.bad k qs[k] x).1, -1, 0, R.fee, 0, ⟨none, 0, 0⟩⟩ : Outcome)) (cs' := Enc.enc (⟨(stepF r R.budget.units R.budget.bad k qs[k] x).1, (k : Int), 0, R.fee, 0, ⟨none, 0, 0⟩⟩ : Outcome)) hS rfl rfl (by repeat constructor) rfl (by rw [Enc.size_eq]; decide) (one_int _ _) (Outcome.set_at_ (⟨(stepF r R.budget.units R.budget.bad k qs[k] x).1, -1, 0, R.fee, 0, ⟨none, 0, 0⟩⟩ : Outcome) (k : Int)) ?_)
              intro w hS; replace hS := hS _ (by repeat constructor)
              refine WL.nil ?_
              refine thenQ_n (hK13 _ _ ?_)
              refine WC.exit ?_
              refine blockQ_miss rfl ?_
              refine thenQ_e ?_
              refine thenQ_e ?_
              refine blockQ_hit ?_
              refine thenQ_n ?_
              first
                | (rw [runL_end (by omega)] at hinv
                   have hac : accF R r qs l = x.l := by unfold accF; rw [← hinv]; rfl
                   exact ⟨⟨rfl, rfl, rfl, rfl, trivial⟩, (0, k, x), s, s.v, x.l, -1, x.space, hinv.symm, rfl, rfl, .inl ⟨rfl, hac⟩, by rw [hac]; exact hxl, hS.sub (by repeat with_reducible first | exact su1 _ | exact su2 _ | refine su3 ?_ | refine su4 ?_)⟩)
                | (have hac : accF R r qs l = l := by unfold accF; rw [← hinv, if_neg he1]
                   exact ⟨⟨rfl, rfl, rfl, rfl, trivial⟩, ((stepF r R.budget.units R.budget.bad k qs[k] x).1, k, (stepF r R.budget.units R.budget.bad k qs[k] x).2), sl, s2.v, (stepF r R.budget.units R.budget.bad k qs[k] x).2.l, (k : Int), 0, hinv.symm, (if_neg he1).symm, (if_neg he1).symm, .inr (by rw [hac]; exact hl), by rw [hac], (((((hS.pick (e := blkE b4 (Enc.enc oz) 59) (by repeat constructor)).pick (e := blkE b2 (Enc.enc R) 56) (by repeat constructor)).pick (e := ownE s2.v 64 (stepF r R.budget.units R.budget.bad k qs[k] x).2.l) (by repeat constructor)).pick (e := blkE b34 (Enc.enc (⟨R, sl, (stepF r R.budget.units R.budget.bad k qs[k] x).2.units, 0⟩ : Running)) 107) (by repeat constructor)).pick (e := blkE b8 (Enc.enc (⟨(stepF r R.budget.units R.budget.bad k qs[k] x).1, (k : Int), 0, R.fee, 0, ⟨none, 0, 0⟩⟩ : Outcome)) 59) (by repeat constructor)).sub (by repeat with_reducible first | exact su1 _ | exact su2 _ | refine su3 ?_ | refine su4 ?_)⟩)
            ·
              have hr2 := hc2
              try simp only [sq1,sq2,sq3,sq4,sq5,sq6,sq7,sq8,sq9,sq0] at hc2
              have he0 : (stepF r R.budget.units R.budget.bad k qs[k] x).1 = 0 := by simpa using hc2
              rw [he0] at hS
              refine WC.skip ?_
              refine blockQ_n ?_
              refine thenQ_n (hK9 _ _ ?_)
              refine WC.region ?_
              refine WL.op rfl (opW.add rfl rfl (wrap_i64 (by omega)) ?_)
              refine WL.op rfl (opW.moveI rfl ?_)
              refine WL.nil ?_
              refine thenQ_n ?_
              rw [runL_step hkq, if_neg (fun e => e he0)] at hinv
              have hkeep := stepF_keeps (r := r) (bu := R.budget.units) (bad := R.budget.bad) (i := k) (q := qs[k]) hxw
              exact ⟨ins.length - (k + 1), by omega, k + 1, s2, (stepF r R.budget.units R.budget.bad k qs[k] x).2, ⟨rfl, rfl, rfl, rfl, rfl, rfl, rfl, congrArg (Value.int .i64) (by omega), trivial⟩, (((((hS.pick (e := blkE b4 (Enc.enc oz) 59) (by repeat constructor)).pick (e := blkE b2 (Enc.enc R) 56) (by repeat constructor)).pick (e := ownE s2.v 64 (stepF r R.budget.units R.budget.bad k qs[k] x).2.l) (by repeat constructor)).pick (e := blkE b34 (Enc.enc (⟨R, s2, (stepF r R.budget.units R.budget.bad k qs[k] x).2.units, (stepF r R.budget.units R.budget.bad k qs[k] x).2.space⟩ : Running)) 107) (by repeat constructor)).pick (e := blkE b8 (Enc.enc (⟨0, -1, 0, R.fee, 0, ⟨none, 0, 0⟩⟩ : Outcome)) 59) (by repeat constructor)).sub (by repeat with_reducible first | exact su1 _ | exact su2 _ | refine su3 ?_ | refine su4 ?_), hinv, hkeep.1.trans hxl, hkeep.2, by omega, rfl⟩
          ·
            have hr1 := hc1
            try simp only [sq1,sq2,sq3,sq4,sq5,sq6,sq7,sq8,sq9,sq0] at hc1
            refine WC.exit ?_
            refine thenQ_e ?_
            refine thenQ_e ?_
            refine blockQ_hit ?_
            refine thenQ_n ?_
            first
              | (rw [runL_end (by omega)] at hinv
                 have hac : accF R r qs l = x.l := by unfold accF; rw [← hinv]; rfl
                 exact ⟨⟨rfl, rfl, rfl, rfl, trivial⟩, (0, k, x), s, s.v, x.l, -1, x.space, hinv.symm, rfl, rfl, .inl ⟨rfl, hac⟩, by rw [hac]; exact hxl, hS.sub (by repeat with_reducible first | exact su1 _ | exact su2 _ | refine su3 ?_ | refine su4 ?_)⟩)
              | (have hac : accF R r qs l = l := by unfold accF; rw [← hinv, if_neg he1]
                 exact ⟨⟨rfl, rfl, rfl, rfl, trivial⟩, ((stepF r R.budget.units R.budget.bad k qs[k] x).1, k, (stepF r R.budget.units R.budget.bad k qs[k] x).2), sl, s2.v, (stepF r R.budget.units R.budget.bad k qs[k] x).2.l, (k : Int), 0, hinv.symm, (if_neg he1).symm, (if_neg he1).symm, .inr (by rw [hac]; exact hl), by rw [hac], (((((hS.pick (e := blkE b4 (Enc.enc oz) 59) (by repeat constructor)).pick (e := blkE b2 (Enc.enc R) 56) (by repeat constructor)).pick (e := ownE s2.v 64 (stepF r R.budget.units R.budget.bad k qs[k] x).2.l) (by repeat constructor)).pick (e := blkE b34 (Enc.enc (⟨R, sl, (stepF r R.budget.units R.budget.bad k qs[k] x).2.units, 0⟩ : Running)) 107) (by repeat constructor)).pick (e := blkE b8 (Enc.enc (⟨(stepF r R.budget.units R.budget.bad k qs[k] x).1, (k : Int), 0, R.fee, 0, ⟨none, 0, 0⟩⟩ : Outcome)) 59) (by repeat constructor)).sub (by repeat with_reducible first | exact su1 _ | exact su2 _ | refine su3 ?_ | refine su4 ?_)⟩)
      ·
        rintro f w ⟨hfit, z, sa, zv, zy, zat, zsp, hz, hzat, hzsp, hac, hacl, hS⟩
        refine WC.fits _ hfit (fun g => ?_)
        clear hfit
        obtain ⟨acc, hacc⟩ : ∃ a, accF R r qs l = a := ⟨_, rfl⟩
        rw [hacc] at hac hacl
        refine WC.seq (fun K14 hK14 => ?_)
        refine WC.draw 8 (.look 0 (.look 1 (.look 2 (.look 3 (.look 4 (.look 5 (.look 6 (.look 7 (.one 8 (.one 9 (.one 10 (.one 11 .nil)))))))))))) (by kernel_rfl) (fun _ _ _ h => h) (fun w1 hw1 => ?_)
        replace hS := hS.bel hw1
        have hS1 := hS
        have hT := St.start w1
        refine ML.look rfl rfl rfl (fun w hw => (by have hS := hS1.bel hw; exact opW.moveV (v := .pointer (some ⟨b34, 0, none⟩)) rfl ⟨rfl, rfl⟩)) ?_
        refine ML.look rfl rfl rfl (fun w hw => (by have hS := hS1.bel hw; exact opW.nilCheckB rfl ⟨rfl, rfl⟩)) ?_
        refine ML.look rfl rfl rfl (fun w hw => (by have hS := hS1.bel hw; exact opW.fieldAddrB rfl ⟨rfl, rfl⟩)) ?_
        refine ML.look rfl rfl rfl (fun w hw => (by have hS := hS1.bel hw; exact opW.loadV rfl (hS.ld1 (b := b34) (cs := Enc.enc (⟨R, sa, z.2.2.units, zsp⟩ : Running)) (by repeat constructor) (Running.at_units (⟨R, sa, z.2.2.units, zsp⟩ : Running))) ⟨rfl, rfl⟩)) ?_
        refine ML.look rfl rfl rfl (fun w hw => (by have hS := hS1.bel hw; exact opW.moveV (v := .pointer (some ⟨b34, 0, none⟩)) rfl ⟨rfl, rfl⟩)) ?_
        refine ML.look rfl rfl rfl (fun w hw => (by have hS := hS1.bel hw; exact opW.nilCheckB rfl ⟨rfl, rfl⟩)) ?_
        refine ML.look rfl rfl rfl (fun w hw => (by have hS := hS1.bel hw; exact opW.fieldAddrB rfl ⟨rfl, rfl⟩)) ?_
        refine ML.look rfl rfl rfl (fun w hw => (by have hS := hS1.bel hw; exact opW.loadV rfl (hS.ld1 (b := b34) (cs := Enc.enc (⟨R, sa, z.2.2.units, zsp⟩ : Running)) (by repeat constructor) (Running.at_space (⟨R, sa, z.2.2.units, zsp⟩ : Running))) ⟨rfl, rfl⟩)) ?_
        refine ML.put1 rfl rfl rfl rfl (opW.fieldAddrB rfl ?_)
        refine ML.put0 rfl rfl rfl (opW.storeF (b := b8) (o := 2) (v := .int .u64 ((z.2.2.units : Nat) : Int)) (sz := 1) (cs := Enc.enc (⟨z.1, zat, 0, R.fee, 0, ⟨none, 0, 0⟩⟩ : Outcome)) (cs' := Enc.enc (⟨z.1, zat, z.2.2.units, R.fee, 0, ⟨none, 0, 0⟩⟩ : Outcome)) hS rfl rfl (by repeat constructor) rfl (by rw [Enc.size_eq]; decide) (one_int _ _) (Outcome.set_units (⟨z.1, zat, 0, R.fee, 0, ⟨none, 0, 0⟩⟩ : Outcome) z.2.2.units) ?_)
        intro w hS; replace hS := hS _ (by repeat constructor)
        refine ML.put1 rfl rfl rfl rfl (opW.fieldAddrB rfl ?_)
        refine ML.put0 rfl rfl rfl (opW.storeF (b := b8) (o := 4) (v := .int .u64 ((zsp : Nat) : Int)) (sz := 1) (cs := Enc.enc (⟨z.1, zat, z.2.2.units, R.fee, 0, ⟨none, 0, 0⟩⟩ : Outcome)) (cs' := Enc.enc (⟨z.1, zat, z.2.2.units, R.fee, zsp, ⟨none, 0, 0⟩⟩ : Outcome)) hS rfl rfl (by repeat constructor) rfl (by rw [Enc.size_eq]; decide) (one_int _ _) (Outcome.set_space (⟨z.1, zat, z.2.2.units, R.fee, 0, ⟨none, 0, 0⟩⟩ : Outcome) zsp) ?_)
        intro w hS; replace hS := hS _ (by repeat constructor)
        refine ML.nil ?_
        refine thenQ_n (hK14 _ _ ?_)
        refine WC.mid (fun f w => ∃ ch : SlV, Fits [(4, .pointer (some ⟨b4, 0, none⟩)), (8, .pointer (some ⟨b8, 0, none⟩))] f ∧ St w0 [blkE b8 (Enc.enc (⟨z.1, zat, z.2.2.units, R.fee, zsp, ch⟩ : Outcome)) 59, ownE ch.v 66 (chgF r acc), blkE b34 (Enc.enc (⟨R, sa, z.2.2.units, zsp⟩ : Running)) 107, ownE zv 64 zy, blkE b2 (Enc.enc R) 56, blkE b4 (Enc.enc oz) 59] w) ?_ ?_
        ·
          refine WC.seq (fun K15 hK15 => ?_)
          refine WC.region ?_
          refine WL.op rfl (opW.fieldAddrB rfl ?_)
          refine WL.op rfl (opW.loadV rfl (hS.ld1 (b := b2) (cs := Enc.enc R) (by repeat constructor) (Ready.at_roles R)) ?_)
          refine WL.op rfl (opW.lenV rfl ((hr.bel hS.old)) ?_)
          refine WL.op rfl (opW.moveI rfl ?_)
          refine WL.nil ?_
          refine thenQ_n (hK15 _ _ ?_)
          refine WC.block ?_
          refine WC.loop (fun m f w => ∃ (k : Nat) (ch : SlV), Fits [(4, .pointer (some ⟨b4, 0, none⟩)), (7, .pointer (some ⟨b34, 0, none⟩)), (8, .pointer (some ⟨b8, 0, none⟩)), (77, R.roles.v), (78, .int .i64 (r.length : Int)), (79, .int .i64 (k : Int))] f ∧ St w0 [blkE b8 (Enc.enc (⟨z.1, zat, z.2.2.units, R.fee, zsp, ch⟩ : Outcome)) 59, ownE ch.v 66 (chgF (r.take k) (acc.take k)), blkE b34 (Enc.enc (⟨R, sa, z.2.2.units, zsp⟩ : Running)) 107, ownE zv 64 zy, blkE b2 (Enc.enc R) 56, blkE b4 (Enc.enc oz) 59] w ∧ k ≤ r.length ∧ m = r.length - k) (r.length) ?_ ?_
          ·
            exact ⟨0, ⟨none, 0, 0⟩, ⟨rfl, rfl, rfl, rfl, rfl, rfl, trivial⟩, (show St w0 [blkE b8 (Enc.enc (⟨z.1, zat, z.2.2.units, R.fee, zsp, (⟨none, 0, 0⟩ : SlV)⟩ : Outcome)) 59, ownE (⟨none, 0, 0⟩ : SlV).v 66 ([] : List Holding), blkE b34 (Enc.enc (⟨R, sa, z.2.2.units, zsp⟩ : Running)) 107, ownE zv 64 zy, blkE b2 (Enc.enc R) 56, blkE b4 (Enc.enc oz) 59] w from ((hS.nilOwn (α := Holding) 66).pick (e := blkE b8 (Enc.enc (⟨z.1, zat, z.2.2.units, R.fee, zsp, ⟨none, 0, 0⟩⟩ : Outcome)) 59) (by repeat constructor))), Nat.zero_le _, rfl⟩
          ·
            rintro m f w ⟨k, ch, hfit, hS, hk0, hm⟩
            refine WC.fits _ hfit (fun g => ?_)
            clear hfit
            refine WC.seq (fun K16 hK16 => ?_)
            refine WC.region ?_
            refine WL.op rfl (opW.lss rfl rfl ?_)
            refine WL.nil ?_
            refine thenQ_n (hK16 _ _ ?_)
            refine WC.seq (fun K17 hK17 => ?_)
            refine WC.cond _ rfl (fun hc3 => ?_) (fun hc3 => ?_)
            ·
              have hr3 := hc3
              try simp only [sq1,sq2,sq3,sq4,sq5,sq6,sq7,sq8,sq9,sq0] at hc3
              have hkr : k < r.length := by omega
              have hka : k < acc.length := by omega
              have hcl := chgF_len (r.take k) (acc.take k)
              rw [List.length_take] at hcl
              refine WC.skip ?_
              refine thenQ_n (hK17 _ _ ?_)
              refine WC.seq (fun K18 hK18 => ?_)
              refine WC.block ?_
              refine WC.seq (fun K19 hK19 => ?_)
              refine WC.region ?_
              refine WL.op rfl (opW.moveI rfl ?_)
              refine WL.op rfl (opW.idxV rfl ((hr.bel hS.old)) rfl (by omega) ?_)
              refine WL.op rfl (opW.loadV rfl (((hr.bel hS.old).isPt hkr).ldA (Enc.size_eq r[k])) ?_)
              refine WL.op rfl (opW.allocA hS ?_)
              intro b13 w _ hS
              refine WL.op rfl (opW.assignI rfl ?_)
              refine WL.op0 (opW.storeE hS rfl rfl (by repeat constructor) (by first | rfl | exact Enc.size_eq _) ?_)
              intro w hS; replace hS := hS _ (by repeat constructor)
              refine WL.nil ?_
              refine thenQ_n (hK19 _ _ ?_)
              refine WC.seq (fun K20 hK20 => ?_)
              refine WC.region ?_
              refine WL.op rfl (opW.fieldAddrB rfl ?_)
              refine WL.op rfl (opW.loadV rfl (hS.ld1 (b := b13) (cs := Enc.enc r[k]) (by repeat constructor) (Role.at_writes r[k])) ?_)
              refine WL.nil ?_
              refine thenQ_n (hK20 _ _ ?_)
              refine WC.cond _ rfl (fun hc4 => ?_) (fun hc4 => ?_)
              ·
                have hr4 := hc4
                try simp only [sq1,sq2,sq3,sq4,sq5,sq6,sq7,sq8,sq9,sq0] at hc4
                have hwr : r[k].writes = true := hc4
                obtain ⟨hk, hhk⟩ : ∃ y, (⟨r[k].key, acc[k]⟩ : Holding) = y := ⟨_, rfl⟩
                refine WC.draw 13 (.look 0 (.look 1 (.look 2 (.look 3 (.look 4 (.look 5 (.look 6 (.look 7 (.look 8 (.look 9 (.look 10 (.look 11 (.one 12 (.one 13 (.one 14 (.one 15 .nil)))))))))))))))) (by kernel_rfl) (fun _ _ _ h => h) (fun w1 hw1 => ?_)
                replace hS := hS.bel hw1
                have hS1 := hS
                have hT := St.start w1
                refine ML.look rfl rfl rfl (fun w hw => (by have hS := hS1.bel hw; exact opW.fieldAddrB rfl ⟨rfl, rfl⟩)) ?_
                refine ML.look rfl rfl rfl (fun w hw => (by have hS := hS1.bel hw; exact opW.loadV rfl (hS.ld1 (b := b8) (cs := Enc.enc (⟨z.1, zat, z.2.2.units, R.fee, zsp, ch⟩ : Outcome)) (by repeat constructor) (Outcome.at_changed (⟨z.1, zat, z.2.2.units, R.fee, zsp, ch⟩ : Outcome))) ⟨rfl, rfl⟩)) ?_
                refine ML.look rfl rfl rfl (fun w hw => (by have hS := hS1.bel hw; exact opW.fieldAddrB rfl ⟨rfl, rfl⟩)) ?_
                refine ML.look rfl rfl rfl (fun w hw => (by have hS := hS1.bel hw; exact opW.loadV rfl (hS.ldF (b := b13) (cs := Enc.enc r[k]) (o := 0) (by repeat constructor) (Role.ex_key _) (by rw [Enc.size_eq]; decide)) ⟨rfl, rfl⟩)) ?_
                refine ML.look rfl rfl rfl (fun w hw => (by have hS := hS1.bel hw; exact opW.moveV (v := .pointer (some ⟨b34, 0, none⟩)) rfl ⟨rfl, rfl⟩)) ?_
                refine ML.look rfl rfl rfl (fun w hw => (by have hS := hS1.bel hw; exact opW.nilCheckB rfl ⟨rfl, rfl⟩)) ?_
                refine ML.look rfl rfl rfl (fun w hw => (by have hS := hS1.bel hw; exact opW.fieldAddrB rfl ⟨rfl, rfl⟩)) ?_
                refine ML.look rfl rfl rfl (fun w hw => (by have hS := hS1.bel hw; exact opW.loadV rfl (hS.ld1 (b := b34) (cs := Enc.enc (⟨R, sa, z.2.2.units, zsp⟩ : Running)) (by repeat constructor) (Running.at_l (⟨R, sa, z.2.2.units, zsp⟩ : Running))) ⟨rfl, rfl⟩)) ?_
                refine ML.look rfl rfl rfl (fun w hw => (by have hS := hS1.bel hw; exact opW.moveI rfl ⟨rfl, rfl⟩)) ?_
                refine ML.look rfl rfl rfl (fun w hw => (by have hS := hS1.bel hw; exact opW.idxV rfl ((accAt (z := zv) (y := zy) hS (by repeat constructor) hac)) rfl (by omega) ⟨rfl, rfl⟩)) ?_
                refine ML.look rfl rfl rfl (fun w hw => (by have hS := hS1.bel hw; exact opW.loadV rfl (((accAt (z := zv) (y := zy) hS (by repeat constructor) hac).isPt hka).ldA (Enc.size_eq acc[k])) ⟨rfl, rfl⟩)) ?_
                refine ML.look rfl rfl rfl (fun w hw => (by have hS := hS1.bel hw; exact opW.buildE (r := ((⟨r[k].key, acc[k]⟩ : Holding) : Holding)) (ps := Holding.parts ((⟨r[k].key, acc[k]⟩ : Holding) : Holding)) (Holding.enc_eq _) (by first | (simp only [sysK, az, budK, enc_vset, enc_vz, Account.enc_eq, Account.parts, Role.enc_eq, Role.parts, Instr.enc_eq, Instr.parts, Ask.enc_eq, Ask.parts, Cut.enc_eq, Cut.parts, PairS.enc_eq, PairS.parts, Header.enc_eq, Header.parts, Lookup.enc_eq, Lookup.parts, Message.enc_eq, Message.parts, Tx.enc_eq, Tx.parts, Budget.enc_eq, Budget.parts, Ready.enc_eq, Ready.parts, Holding.enc_eq, Holding.parts, Outcome.enc_eq, Outcome.parts, Running.enc_eq, Running.parts, StS.enc_eq, StS.parts]; rfl) | rfl) (by (repeat' (first | exact trivial | refine And.intro ?_ ?_)) <;> first | rfl | exact Enc.size_eq _ | (simp; done)) ⟨rfl, rfl⟩)) ?_
                refine ML.one rfl rfl rfl (opW.buildSl hT (([⟨r[k].key, acc[k]⟩] : List Holding)) [.agg (Enc.enc (⟨r[k].key, acc[k]⟩ : Holding))] rfl rfl rfl rfl (by decide) ?_)
                intro b98 w hw hT
                refine ⟨hT.old, ?_⟩
                have hS := hS1.merge hT
                try simp only [List.cons_append, List.nil_append] at hS
                refine ML.put1 rfl rfl rfl rfl (opW.appendOwn (α := Holding) (xs := (chgF (r.take k) (acc.take k))) (ys := [⟨r[k].key, acc[k]⟩]) rfl hS rfl (by repeat constructor) (hS.sl (v := .slice (some ⟨b98, 0, none⟩) 1 1) (xs := ([⟨r[k].key, acc[k]⟩] : List Holding)) (by repeat constructor)) (by simp only [List.length_cons, List.length_nil]; omega) (by simp only [maxLen, List.length_cons, List.length_nil]; omega) ?_)
                intro v99 w hS; replace hS := hS _ (by repeat constructor)
                rw [hhk] at hS
                obtain ⟨ch2, rfl⟩ := (hS.sl (v := v99) (xs := (chgF (r.take k) (acc.take k)) ++ [hk]) (by repeat constructor)).asV
                refine ML.put1 rfl rfl rfl rfl (opW.fieldAddrB rfl ?_)
                refine ML.put0 rfl rfl rfl (opW.storeF (b := b8) (o := 5) (v := ch2.v) (sz := 1) (cs := Enc.enc (⟨z.1, zat, z.2.2.units, R.fee, zsp, ch⟩ : Outcome)) (cs' := Enc.enc (⟨z.1, zat, z.2.2.units, R.fee, zsp, ch2⟩ : Outcome)) hS rfl rfl (by repeat constructor) rfl (by rw [Enc.size_eq]; decide) (Enc.one (α := SlV) ch2) (Outcome.set_changed (⟨z.1, zat, z.2.2.units, R.fee, zsp, ch⟩ : Outcome) ch2) ?_)
                intro w hS; replace hS := hS _ (by repeat constructor)
                refine ML.nil ?_
                refine blockQ_n ?_
                refine thenQ_n (hK18 _ _ ?_)
                refine WC.region ?_
                refine WL.op rfl (opW.add rfl rfl (wrap_i64 (by omega)) ?_)
                refine WL.op rfl (opW.moveI rfl ?_)
                refine WL.nil ?_
                refine thenQ_n ?_
                first
                  | (have hst : (chgF (r.take (k + 1)) (acc.take (k + 1))) = (chgF (r.take k) (acc.take k)) ++ [hk] := by rw [chgF_step hkr hka, if_pos hwr, hhk]
                     rw [← hst] at hS
                     exact ⟨r.length - (k + 1), by omega, k + 1, ch2, ⟨rfl, rfl, rfl, rfl, rfl, congrArg (Value.int .i64) (by omega), trivial⟩, ((((((hS.pick (e := blkE b4 (Enc.enc oz) 59) (by repeat constructor)).pick (e := blkE b2 (Enc.enc R) 56) (by repeat constructor)).pick (e := ownE zv 64 zy) (by repeat constructor)).pick (e := blkE b34 (Enc.enc (⟨R, sa, z.2.2.units, zsp⟩ : Running)) 107) (by repeat constructor)).pick (e := ownE ch2.v 66 (chgF (r.take (k + 1)) (acc.take (k + 1)))) (by repeat constructor)).pick (e := blkE b8 (Enc.enc (⟨z.1, zat, z.2.2.units, R.fee, zsp, ch2⟩ : Outcome)) 59) (by repeat constructor)).sub (by repeat with_reducible first | exact su1 _ | exact su2 _ | refine su3 ?_ | refine su4 ?_), by omega, rfl⟩)
                  | (have hst : (chgF (r.take (k + 1)) (acc.take (k + 1))) = (chgF (r.take k) (acc.take k)) := by rw [chgF_step hkr hka, if_neg (by rw [hwr]; decide), List.append_nil]
                     rw [← hst] at hS
                     exact ⟨r.length - (k + 1), by omega, k + 1, ch, ⟨rfl, rfl, rfl, rfl, rfl, congrArg (Value.int .i64) (by omega), trivial⟩, ((((((hS.pick (e := blkE b4 (Enc.enc oz) 59) (by repeat constructor)).pick (e := blkE b2 (Enc.enc R) 56) (by repeat constructor)).pick (e := ownE zv 64 zy) (by repeat constructor)).pick (e := blkE b34 (Enc.enc (⟨R, sa, z.2.2.units, zsp⟩ : Running)) 107) (by repeat constructor)).pick (e := ownE ch.v 66 (chgF (r.take (k + 1)) (acc.take (k + 1)))) (by repeat constructor)).pick (e := blkE b8 (Enc.enc (⟨z.1, zat, z.2.2.units, R.fee, zsp, ch⟩ : Outcome)) 59) (by repeat constructor)).sub (by repeat with_reducible first | exact su1 _ | exact su2 _ | refine su3 ?_ | refine su4 ?_), by omega, rfl⟩)
              ·
                have hr4 := hc4
                try simp only [sq1,sq2,sq3,sq4,sq5,sq6,sq7,sq8,sq9,sq0] at hc4
                have hwr : r[k].writes = false := hc4
                refine WC.skip ?_
                refine blockQ_n ?_
                refine thenQ_n (hK18 _ _ ?_)
                refine WC.region ?_
                refine WL.op rfl (opW.add rfl rfl (wrap_i64 (by omega)) ?_)
                refine WL.op rfl (opW.moveI rfl ?_)
                refine WL.nil ?_
                refine thenQ_n ?_
                first
                  | (have hst : (chgF (r.take (k + 1)) (acc.take (k + 1))) = (chgF (r.take k) (acc.take k)) ++ [hk] := by rw [chgF_step hkr hka, if_pos hwr, hhk]
                     rw [← hst] at hS
                     exact ⟨r.length - (k + 1), by omega, k + 1, ch2, ⟨rfl, rfl, rfl, rfl, rfl, congrArg (Value.int .i64) (by omega), trivial⟩, ((((((hS.pick (e := blkE b4 (Enc.enc oz) 59) (by repeat constructor)).pick (e := blkE b2 (Enc.enc R) 56) (by repeat constructor)).pick (e := ownE zv 64 zy) (by repeat constructor)).pick (e := blkE b34 (Enc.enc (⟨R, sa, z.2.2.units, zsp⟩ : Running)) 107) (by repeat constructor)).pick (e := ownE ch2.v 66 (chgF (r.take (k + 1)) (acc.take (k + 1)))) (by repeat constructor)).pick (e := blkE b8 (Enc.enc (⟨z.1, zat, z.2.2.units, R.fee, zsp, ch2⟩ : Outcome)) 59) (by repeat constructor)).sub (by repeat with_reducible first | exact su1 _ | exact su2 _ | refine su3 ?_ | refine su4 ?_), by omega, rfl⟩)
                  | (have hst : (chgF (r.take (k + 1)) (acc.take (k + 1))) = (chgF (r.take k) (acc.take k)) := by rw [chgF_step hkr hka, if_neg (by rw [hwr]; decide), List.append_nil]
                     rw [← hst] at hS
                     exact ⟨r.length - (k + 1), by omega, k + 1, ch, ⟨rfl, rfl, rfl, rfl, rfl, congrArg (Value.int .i64) (by omega), trivial⟩, ((((((hS.pick (e := blkE b4 (Enc.enc oz) 59) (by repeat constructor)).pick (e := blkE b2 (Enc.enc R) 56) (by repeat constructor)).pick (e := ownE zv 64 zy) (by repeat constructor)).pick (e := blkE b34 (Enc.enc (⟨R, sa, z.2.2.units, zsp⟩ : Running)) 107) (by repeat constructor)).pick (e := ownE ch.v 66 (chgF (r.take (k + 1)) (acc.take (k + 1)))) (by repeat constructor)).pick (e := blkE b8 (Enc.enc (⟨z.1, zat, z.2.2.units, R.fee, zsp, ch⟩ : Outcome)) 59) (by repeat constructor)).sub (by repeat with_reducible first | exact su1 _ | exact su2 _ | refine su3 ?_ | refine su4 ?_), by omega, rfl⟩)
            ·
              have hr3 := hc3
              try simp only [sq1,sq2,sq3,sq4,sq5,sq6,sq7,sq8,sq9,sq0] at hc3
              refine WC.exit ?_
              refine thenQ_e ?_
              refine thenQ_e ?_
              refine blockQ_hit ?_
              refine thenQ_n ?_
              rw [chgF_all (r := r) (l := acc) (k := k) (by omega) (by omega)] at hS
              exact ⟨ch, ⟨rfl, rfl, trivial⟩, hS⟩
        ·
          rintro f w ⟨ch, hfit, hS⟩
          refine WC.fits _ hfit (fun g => ?_)
          clear hfit
          refine WC.seq (fun K21 hK21 => ?_)
          refine WC.region ?_
          refine WL.op rfl (opW.fieldAddrB rfl ?_)
          refine WL.op rfl (opW.loadV rfl (hS.ld1 (b := b8) (cs := Enc.enc (⟨z.1, zat, z.2.2.units, R.fee, zsp, ch⟩ : Outcome)) (by repeat constructor) (Outcome.at_changed (⟨z.1, zat, z.2.2.units, R.fee, zsp, ch⟩ : Outcome))) ?_)
          refine WL.op rfl (opW.call (clip_h _ ch.v (chgF r acc) (hS.sl (v := ch.v) (xs := (chgF r acc)) (by repeat constructor))) rfl ?_)
          rintro v104 w ⟨hv104, hw⟩; replace hS := hS.bel hw
          replace hS := hS.cutOwn (v := ch.v) (T := 66) (xs := (chgF r acc)) (by repeat constructor)
          rw [← hv104] at hS
          obtain ⟨ch3, rfl⟩ := (hS.sl (v := v104) (xs := (chgF r acc)) (by repeat constructor)).asV
          refine WL.op rfl (opW.fieldAddrB rfl ?_)
          refine WL.op0 (opW.storeF (b := b8) (o := 5) (v := ch3.v) (sz := 1) (cs := Enc.enc (⟨z.1, zat, z.2.2.units, R.fee, zsp, ch⟩ : Outcome)) (cs' := Enc.enc (⟨z.1, zat, z.2.2.units, R.fee, zsp, ch3⟩ : Outcome)) hS rfl rfl (by repeat constructor) rfl (by rw [Enc.size_eq]; decide) (Enc.one (α := SlV) ch3) (Outcome.set_changed (⟨z.1, zat, z.2.2.units, R.fee, zsp, ch⟩ : Outcome) ch3) ?_)
          intro w hS; replace hS := hS _ (by repeat constructor)
          refine WL.nil ?_
          refine thenQ_n (hK21 _ _ ?_)
          refine WC.seq (fun K22 hK22 => ?_)
          refine WC.region ?_
          refine WL.op rfl (opW.loadV rfl (hS.ldA (b := b8) (cs := Enc.enc (⟨z.1, zat, z.2.2.units, R.fee, zsp, ch3⟩ : Outcome)) (by repeat constructor) (Enc.size_eq (⟨z.1, zat, z.2.2.units, R.fee, zsp, ch3⟩ : Outcome))) ?_)
          refine WL.op0 (opW.storeE hS rfl rfl (by repeat constructor) (by first | rfl | exact Enc.size_eq _) ?_)
          intro w hS; replace hS := hS _ (by repeat constructor)
          refine WL.op rfl (opW.assignI rfl ?_)
          refine WL.nil ?_
          refine thenQ_n (hK22 _ _ ?_)
          refine WC.ret ?_
          refine bodyQ_ret (.cell (hS.ldA (b := b4) (cs := Enc.enc (⟨z.1, zat, z.2.2.units, R.fee, zsp, ch3⟩ : Outcome)) (by repeat constructor) (Enc.size_eq (⟨z.1, zat, z.2.2.units, R.fee, zsp, ch3⟩ : Outcome))) (.tmpI rfl .nil)) ?_
          refine .inr ⟨hbad, ch3, ?_, by rw [hacc]; exact hS.own_new (by repeat constructor), hS.old⟩
          unfold outF
          rw [hz, ← hzat, ← hzsp]
          rfl

end Go.Fer
