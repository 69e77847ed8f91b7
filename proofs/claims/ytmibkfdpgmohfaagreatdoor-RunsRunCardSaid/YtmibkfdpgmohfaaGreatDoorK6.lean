/- one step -/
import Derived.Test.YtmibkfdpgmohfaaGreatDoorK
import Derived.Test.YtmibkfdpgmohfaaGreatDoorK4
set_option linter.all false
namespace Go.Fer
open Go Go.Proofs Go.RowKit

theorem as_ret {wb w : World} {S : List Ent} {tb : Nat} {o : Outcome} {E : TypeId} (n : Int) (hg : ErrLaid w) (hS : St wb S w) (he : Has (blkE tb (Enc.enc o) E) S) :
  Ret Tryz.prog 28 #[.iface 46 (.int .i64 n), .iface 89 (.pointer (some ⟨tb, 0, none⟩))] w (fun u w' => u = .bool true ∧ ∀ S', Turn (blkE tb (Enc.enc o) E) (blkE tb (Enc.enc ({ o with fail := n } : Outcome)) E) S S' → St wb S' w') := by
 have hb := hS.blk he
 have hsz : (Enc.enc o).size = 6 := Enc.size_eq o
 unfold Ret
 refine Calls.mono (as_hit n tb (Enc.enc o) E w hg hb (by omega)) ?_
 rintro e w' ⟨rfl, rfl⟩
 refine ⟨_, rfl, rfl, fun S' hT => ?_⟩
 have b1 := Bel.alloc w (.cells #[.pointer (some ⟨tb, 0, none⟩)] 89)
 have b2 := Bel.alloc (A1 tb w) (.cells #[.pointer (some ⟨1, 89, none⟩), .pointer (some ⟨w.heap.size, 0, none⟩), .int .u64 150] 129)
 have b3 := Bel.alloc (A2 tb w) (.cells #[.pointer (some ⟨1, 89, none⟩), .pointer (some ⟨w.heap.size, 0, none⟩), .int .u64 150] 129)
 have b4 := Bel.alloc (A3 tb w) (.cells #[.int .i64 n] 46)
 have b := ((b1.trans b2).trans b3).trans b4
 have hb4 : (A4 n tb w).heap[tb]? = some (.cells (Enc.enc o) E (0, 0)) := b.get hb
 have heq : ((Enc.enc o).toList.take 0 ++ (Value.int .i64 n).cells.toList ++ (Enc.enc o).toList.drop (0 + (Value.int .i64 n).cells.toList.length)).toArray = Enc.enc ({ o with fail := n } : Outcome) := by
  rw [← Outcome.set_fail o n]
  unfold spl
  apply Array.ext'
  simp [Value.cells]
  rw [List.take_of_length_le (by simp)]
 rw [heq]
 refine St.turn ?_ ?_ ?_ (hS.bel b) hT
 ·unfold blkE
  exact ⟨rfl, rfl, rfl, by simp [World.setRow], fun k _ hk => setRow_other _ tb k _ hk⟩
 ·unfold blkE; exact setRow_heap _ tb _ _ E _ hb4
 ·unfold blkE; intro k hk; exact .inl hk
theorem as_none (t : Value) (w : World) : Ret Tryz.prog 28 #[.nilIface, t] w (fun u w' => u = .bool false ∧ Bel w w') := by
 unfold Ret
 refine Calls.mono (as_nil t w) ?_
 rintro e w' ⟨rfl, rfl⟩
 exact ⟨_, rfl, rfl, Bel.refl _⟩
/-- an error, as the program has it: nil, or an Errno in an interface -/
def errV (e : Int) : Value := if e = 0 then .nilIface else .iface 46 (.int .i64 e)
theorem errV_0 : errV 0 = .nilIface := rfl
theorem errV_ne {e : Int} (h : e ≠ 0) : errV e = .iface 46 (.int .i64 e) := if_neg h

/-- an instruction, read -/
structure PI where
 p : UInt8
 ats : List UInt8
 dt : List UInt8
def InIs (w : World) (c : Instr) (q : PI) : Prop := c.program = q.p ∧ SlR w c.accounts.v q.ats ∧ SlR w c.data.v q.dt
theorem InIs.bel {w w' : World} {c : Instr} {q : PI} (hb : Bel w w') (h : InIs w c q) : InIs w' c q := ⟨h.1, h.2.1.bel hb, h.2.2.bel hb⟩
/-- what a running transaction has -/
structure XS where
 units : Nat
 space : Nat
 l : List Account
def keyAt (r : List Role) (p : UInt8) : Key := (r.getD p.toNat ⟨vz 32, false, false⟩).key
theorem keyAt_eq {r : List Role} {p : UInt8} (h : p.toNat < r.length) : keyAt r p = r[p.toNat].key := by unfold keyAt; rw [getD_of h]
/-- one instruction that has its units -/
def actF (r : List Role) (q : PI) (x : XS) : Int × XS :=
 if keyAt r q.p = budK then (0, x) else if keyAt r q.p = sysK then
  (if (doF x.l r q.ats q.dt).1 ≠ 0 then ((doF x.l r q.ats q.dt).1, x) else (0, { x with l := (doF x.l r q.ats q.dt).2.2, space := (x.space + (doF x.l r q.ats q.dt).2.1) % 18446744073709551616 }))
 else (19, x)
/-- one step -/
def stepF (r : List Role) (bu : Nat) (bad : Int) (i : Nat) (q : PI) (x : XS) : Int × XS :=
 if bu < x.units ∨ bu - x.units < 150 then (20, { x with units := bu }) else
 if (i : Int) = bad then (21, { x with units := x.units + 150 }) else actF r q { x with units := x.units + 150 }
theorem stepF_20 {r : List Role} {bu : Nat} {bad : Int} {i : Nat} {q : PI} {x : XS} (h : bu < x.units ∨ bu - x.units < 150) : stepF r bu bad i q x = (20, { x with units := bu }) := if_pos h
theorem stepF_21 {r : List Role} {bu : Nat} {bad : Int} {i : Nat} {q : PI} {x : XS} (h : ¬ (bu < x.units ∨ bu - x.units < 150)) (hi : (i : Int) = bad) : stepF r bu bad i q x = (21, { x with units := x.units + 150 }) := by unfold stepF; rw [if_neg h, if_pos hi]
theorem stepF_act {r : List Role} {bu : Nat} {bad : Int} {i : Nat} {q : PI} {x : XS} (h : ¬ (bu < x.units ∨ bu - x.units < 150)) (hi : ¬ (i : Int) = bad) : stepF r bu bad i q x = actF r q { x with units := x.units + 150 } := by unfold stepF; rw [if_neg h, if_neg hi]
theorem actF_b {r : List Role} {q : PI} {x : XS} (h : keyAt r q.p = budK) : actF r q x = (0, x) := if_pos h
theorem actF_s {r : List Role} {q : PI} {x : XS} (h : keyAt r q.p = sysK) : actF r q x = (if (doF x.l r q.ats q.dt).1 ≠ 0 then ((doF x.l r q.ats q.dt).1, x) else (0, { x with l := (doF x.l r q.ats q.dt).2.2, space := (x.space + (doF x.l r q.ats q.dt).2.1) % 18446744073709551616 })) := by
 unfold actF; rw [if_neg (fun e => bud_ne (e.symm.trans h)), if_pos h]
theorem actF_n {r : List Role} {q : PI} {x : XS} (h : keyAt r q.p ≠ budK) (h2 : keyAt r q.p ≠ sysK) : actF r q x = (19, x) := by unfold actF; rw [if_neg h, if_neg h2]
theorem Running.at_bu (x : Running) : (Enc.enc x)[42]? = some (.int .u64 (x.r.budget.units : Int)) := at_of_ex (i := 42) (Running.ex_r x) (Ready.at_budget_units x.r) (by decide)
theorem Running.at_bad (x : Running) : (Enc.enc x)[44]? = some (.int .i64 x.r.budget.bad) := at_of_ex (i := 44) (Running.ex_r x) (Ready.at_budget_bad x.r) (by decide)
theorem progF_some {k : Key} {v : Value} (h : progF k = some v) : (k = budK ∧ v = progBV) ∨ (k = sysK ∧ v = progSV) := by
 unfold progF at h
 split at h
 ·next hk => cases h; exact .inl ⟨hk, rfl⟩
 ·split at h
  ·next hk => cases h; exact .inr ⟨hk, rfl⟩
  ·cases h
theorem progF_none {k : Key} (h : (progF k).isSome = false) : k ≠ budK ∧ k ≠ sysK := by
 unfold progF at h
 split at h
 ·cases h
 ·next h1 =>
  split at h
  ·cases h
  ·next h2 => exact ⟨h1, h2⟩

theorem opW.lookup2ZB {κ ν : Type} [DecidableEq κ] [KV κ] {P : Program} {f : Fr} {w : World} {R : Value → World → Prop} {d : Option Tmp} {T : TypeId} {pos : String} {af : Array Edge} {gd : Option (Nat × Bool)} {t K E r : Nat} {z0 u : ν} {x ix : Operand} {k : κ} {vv : ν → Value} {kvs : List (κ × ν)} {b : Bool} [hm : MapT P t K E] [hk : KeyT P K κ] (hz : ZeroT P E (vv z0)) (hM : MapB w r vv kvs) (hx : ev f x = .map (some r)) (hi : ev f ix = KV.kv k) (hu : (aget k kvs).getD z0 = u) (hb : (aget k kvs).isSome = b) (h : R (.tuple #[vv u, .bool b]) w) : opW P f ⟨d, .lookup t x ix true, T, pos, af, gd⟩ w R := by
 subst hb
 exact opW.lookup2Z hz hM hx hi hu h
theorem prog_call (wb w : World) (S : List Ent) (p : Nat) (R : Ready) (s : SlV) (x : XS) (c : Instr) (q : PI) (r : List Role) (hq : c.program = q.p) (hp : c.program.toNat < r.length) {v : Value} (hv : (keyAt r c.program = budK ∧ v = progBV) ∨ (keyAt r c.program = sysK ∧ v = progSV))
  (hS : St wb (blkE p (Enc.enc (⟨R, s, x.units + 150, x.space⟩ : Running)) 84 :: ownE s.v 69 x.l :: S) w) (hr : SlR wb R.roles.v r) (hql : SlR wb c.accounts.v q.ats) (hdl : SlR wb c.data.v q.dt) (hlb : x.l.length ≤ 100000) (hlw : ∀ y ∈ x.l, okW y) :
  FnV Tryz.prog v [.pointer (some ⟨p, 0, none⟩), .agg (Enc.enc c)] w (fun u w' => ∃ s2 : SlV, u = errV (actF r q { x with units := x.units + 150 }).1 ∧ St wb (blkE p (Enc.enc (⟨R, s2, (actF r q { x with units := x.units + 150 }).2.units, (actF r q { x with units := x.units + 150 }).2.space⟩ : Running)) 84 :: ownE s2.v 69 (actF r q { x with units := x.units + 150 }).2.l :: S) w') := by
 rcases hv with ⟨hk, rfl⟩ | ⟨hk, rfl⟩
 ·rw [actF_b (by rw [← hq]; exact hk)]
  refine ⟨_, [], [], rfl, inferInstance, (progB_ok w _ c).mono ?_⟩
  rintro u w' ⟨rfl, hw⟩
  exact ⟨s, rfl, hS.bel hw⟩
 ·rw [actF_s (by rw [← hq]; exact hk)]
  refine ⟨_, [], [], rfl, inferInstance, (progS_ok wb w S p ⟨R, s, x.units + 150, x.space⟩ c x.l r q.ats q.dt hS hr hql hdl hlb hlw).mono ?_⟩
  rintro u w' (⟨he, rfl, hS⟩ | ⟨he, rfl, s2, hS⟩)
  ·rw [if_pos he]
   exact ⟨s, (errV_ne he).symm, hS⟩
  ·rw [if_neg (fun e => e he)]
   exact ⟨s2, rfl, hS⟩

theorem step_ok (wb w0 : World) (S : List Ent) (p i : Nat) (R : Ready) (s : SlV) (x : XS) (c : Instr) (q : PI) (r : List Role) (hS0 : St wb (blkE p (Enc.enc (⟨R, s, x.units, x.space⟩ : Running)) 84 :: ownE s.v 69 x.l :: S) w0) (hr : SlR wb R.roles.v r) (hq : c.program = q.p) (hql : SlR wb c.accounts.v q.ats) (hdl : SlR wb c.data.v q.dt) (hp : c.program.toNat < r.length) (hbu : R.budget.units < 18446744073709551616) (hlb : x.l.length ≤ 100000) (hlw : ∀ y ∈ x.l, okW y) : Ret Tryz.prog 27 #[.pointer (some ⟨p, 0, none⟩), .int .i64 (i : Int), .agg (Enc.enc c)] w0 (fun u w' => ∃ s2 : SlV, u = errV (stepF r R.budget.units R.budget.bad i q x).1 ∧ St wb (blkE p (Enc.enc (⟨R, s2, (stepF r R.budget.units R.budget.bad i q x).2.units, (stepF r R.budget.units R.budget.bad i q x).2.space⟩ : Running)) 84 :: ownE s2.v 69 (stepF r R.budget.units R.budget.bad i q x).2.l :: S) w') := by
 refine Ret.enter (args := [.pointer (some ⟨p, 0, none⟩), .int .i64 (i : Int), .agg (Enc.enc c)]) Tryz.func27 rfl Tryz.ntmps27 Tryz.results27 rfl ?_
 have hS := St.start w0
 replace hS := hS0
 refine WC.seq (fun K1 hK1 => ?_)
 refine WC.region ?_
 refine WL.op rfl (opW.boxA hS rfl ?_)
 intro b5 w _ hS
 refine WL.op rfl (opW.assignV rfl ?_)
 refine WL.nil ?_
 refine thenQ_n (hK1 _ _ ?_)
 refine WC.seq (fun K2 hK2 => ?_)
 refine WC.seq (fun K3 hK3 => ?_)
 refine WC.draw 25 (.look 0 (.look 1 (.look 2 (.look 3 (.look 4 (.look 5 (.look 6 (.look 7 (.look 8 (.look 9 (.look 10 (.look 11 (.look 12 (.look 13 (.look 14 (.look 15 (.look 16 (.look 17 (.look 18 (.look 19 (.look 20 (.look 21 (.look 22 (.look 23 (.look 24 .nil))))))))))))))))))))))))) (by kernel_rfl) (fun _ _ _ h => h) (fun w1 hw1 => ?_)
 replace hS := hS.bel hw1
 have hS1 := hS
 have hT := St.start w1
 refine ML.look rfl rfl rfl (fun w hw => (by have hS := hS1.bel hw; exact opW.moveV (v := .pointer (some ⟨p, 0, none⟩)) rfl ⟨rfl, rfl⟩)) ?_
 refine ML.look rfl rfl rfl (fun w hw => (by have hS := hS1.bel hw; exact opW.nilCheckB rfl ⟨rfl, rfl⟩)) ?_
 refine ML.look rfl rfl rfl (fun w hw => (by have hS := hS1.bel hw; exact opW.fieldAddrB rfl ⟨rfl, rfl⟩)) ?_
 refine ML.look rfl rfl rfl (fun w hw => (by have hS := hS1.bel hw; exact opW.loadV rfl (hS.ld1 (b := p) (cs := Enc.enc (⟨R, s, x.units, x.space⟩ : Running)) (by repeat constructor) (Running.at_units (⟨R, s, x.units, x.space⟩ : Running))) ⟨rfl, rfl⟩)) ?_
 refine ML.look rfl rfl rfl (fun w hw => (by have hS := hS1.bel hw; exact opW.moveV (v := .pointer (some ⟨p, 0, none⟩)) rfl ⟨rfl, rfl⟩)) ?_
 refine ML.look rfl rfl rfl (fun w hw => (by have hS := hS1.bel hw; exact opW.nilCheckB rfl ⟨rfl, rfl⟩)) ?_
 refine ML.look rfl rfl rfl (fun w hw => (by have hS := hS1.bel hw; exact opW.fieldAddrB rfl ⟨rfl, rfl⟩)) ?_
 refine ML.look rfl rfl rfl (fun w hw => (by have hS := hS1.bel hw; exact opW.fieldAddrB rfl ⟨rfl, rfl⟩)) ?_
 refine ML.look rfl rfl rfl (fun w hw => (by have hS := hS1.bel hw; exact opW.fieldAddrB rfl ⟨rfl, rfl⟩)) ?_
 refine ML.look rfl rfl rfl (fun w hw => (by have hS := hS1.bel hw; exact opW.loadV rfl (hS.ld1 (b := p) (cs := Enc.enc (⟨R, s, x.units, x.space⟩ : Running)) (by repeat constructor) (Running.at_bu (⟨R, s, x.units, x.space⟩ : Running))) ⟨rfl, rfl⟩)) ?_
 refine ML.look rfl rfl rfl (fun w hw => (by have hS := hS1.bel hw; exact opW.gtr rfl rfl ⟨rfl, rfl⟩)) ?_
 refine ML.look rfl rfl rfl (fun w hw => (by have hS := hS1.bel hw; exact opW.moveB rfl ⟨rfl, rfl⟩)) ?_
 refine ML.lookG  _ 20 rfl rfl rfl rfl rfl rfl (fun hg21 w hw => (by have hS := hS1.bel hw; exact opW.moveV (v := .pointer (some ⟨p, 0, none⟩)) rfl ⟨rfl, rfl⟩)) ?_
 refine ML.lookG  _ 20 rfl rfl rfl rfl rfl rfl (fun hg22 w hw => (by have hS := hS1.bel hw; exact opW.nilCheckB (by first | exact gv_of rfl hg22 | rfl) ⟨rfl, rfl⟩)) ?_
 refine ML.lookG  _ 20 rfl rfl rfl rfl rfl rfl (fun hg23 w hw => (by have hS := hS1.bel hw; exact opW.fieldAddrB (by first | exact gv_of rfl hg23 | rfl) ⟨rfl, rfl⟩)) ?_
 refine ML.lookG  _ 20 rfl rfl rfl rfl rfl rfl (fun hg24 w hw => (by have hS := hS1.bel hw; exact opW.fieldAddrB (by first | exact gv_of rfl hg24 | rfl) ⟨rfl, rfl⟩)) ?_
 refine ML.lookG  _ 20 rfl rfl rfl rfl rfl rfl (fun hg25 w hw => (by have hS := hS1.bel hw; exact opW.fieldAddrB (by first | exact gv_of rfl hg25 | rfl) ⟨rfl, rfl⟩)) ?_
 refine ML.lookG (E := .int .u64 ((R.budget.units : Nat) : Int)) _ 20 rfl rfl rfl rfl rfl rfl (fun hg26 w hw => (by have hS := hS1.bel hw; exact opW.loadV (by first | exact gv_of rfl hg26 | rfl) (hS.ld1 (b := p) (cs := Enc.enc (⟨R, s, x.units, x.space⟩ : Running)) (by repeat constructor) (Running.at_bu (⟨R, s, x.units, x.space⟩ : Running))) ⟨rfl, rfl⟩)) ?_
 refine ML.lookG  _ 20 rfl rfl rfl rfl rfl rfl (fun hg27 w hw => (by have hS := hS1.bel hw; exact opW.moveV (v := .pointer (some ⟨p, 0, none⟩)) rfl ⟨rfl, rfl⟩)) ?_
 refine ML.lookG  _ 20 rfl rfl rfl rfl rfl rfl (fun hg28 w hw => (by have hS := hS1.bel hw; exact opW.nilCheckB (by first | exact gv_of rfl hg28 | rfl) ⟨rfl, rfl⟩)) ?_
 refine ML.lookG  _ 20 rfl rfl rfl rfl rfl rfl (fun hg29 w hw => (by have hS := hS1.bel hw; exact opW.fieldAddrB (by first | exact gv_of rfl hg29 | rfl) ⟨rfl, rfl⟩)) ?_
 refine ML.lookG (E := .int .u64 ((x.units : Nat) : Int)) _ 20 rfl rfl rfl rfl rfl rfl (fun hg30 w hw => (by have hS := hS1.bel hw; exact opW.loadV (by first | exact gv_of rfl hg30 | rfl) (hS.ld1 (b := p) (cs := Enc.enc (⟨R, s, x.units, x.space⟩ : Running)) (by repeat constructor) (Running.at_units (⟨R, s, x.units, x.space⟩ : Running))) ⟨rfl, rfl⟩)) ?_
 refine ML.lookG (E := .int .u64 ((R.budget.units - x.units : Nat) : Int)) _ 20 rfl rfl rfl rfl rfl rfl (fun hg31 w hw => (by have hS := hS1.bel hw; exact opW.sub (by first | exact gv_of rfl hg31 | rfl) (by first | exact gv_of rfl hg31 | rfl) (nsub (by simp only [beq_iff_eq, decide_eq_false_iff_not] at hg31; omega) hbu) ⟨rfl, rfl⟩)) ?_
 refine ML.lookG  _ 20 rfl rfl rfl rfl rfl rfl (fun hg32 w hw => (by have hS := hS1.bel hw; exact opW.lss (by first | exact gv_of rfl hg32 | rfl) rfl ⟨rfl, rfl⟩)) ?_
 refine ML.look rfl rfl rfl (fun w hw => (by have hS := hS1.bel hw; exact opW.pickOr rfl rfl (by first | rfl) ⟨rfl, rfl⟩)) ?_
 refine ML.nil ?_
 refine thenQ_n (hK3 _ _ ?_)
 refine WC.cond _ rfl (fun hc0 => ?_) (fun hc0 => ?_)
 ·
  have hr0 := hc0
  try simp only [sq1,sq2,sq3,sq4,sq5,sq6,sq7,sq8,sq9,sq0] at hc0
  have hlim : R.budget.units < x.units ∨ R.budget.units - x.units < 150 := by omega
  have hst := stepF_20 (r := r) (bad := R.budget.bad) (i := i) (q := q) hlim
  refine WC.seq (fun K4 hK4 => ?_)
  refine WC.region ?_
  refine WL.op rfl (opW.moveV (v := .pointer (some ⟨p, 0, none⟩)) rfl ?_)
  refine WL.op rfl (opW.moveV (v := .pointer (some ⟨p, 0, none⟩)) rfl ?_)
  refine WL.op rfl (opW.nilCheckB rfl ?_)
  refine WL.op rfl (opW.fieldAddrB rfl ?_)
  refine WL.op rfl (opW.fieldAddrB rfl ?_)
  refine WL.op rfl (opW.fieldAddrB rfl ?_)
  refine WL.op rfl (opW.loadV rfl (hS.ld1 (b := p) (cs := Enc.enc (⟨R, s, x.units, x.space⟩ : Running)) (by repeat constructor) (Running.at_bu (⟨R, s, x.units, x.space⟩ : Running))) ?_)
  refine WL.op rfl (opW.nilCheckB rfl ?_)
  refine WL.op rfl (opW.fieldAddrB rfl ?_)
  refine WL.op0 (opW.storeF (b := p) (o := 49) (v := .int .u64 ((R.budget.units : Nat) : Int)) (sz := 1) (cs := Enc.enc (⟨R, s, x.units, x.space⟩ : Running)) (cs' := Enc.enc (⟨R, s, R.budget.units, x.space⟩ : Running)) hS rfl rfl (by repeat constructor) rfl (by rw [Enc.size_eq]; decide) (one_int _ _) (Running.set_units (⟨R, s, x.units, x.space⟩ : Running) (R.budget.units)) ?_)
  intro w hS; replace hS := hS _ (by repeat constructor)
  refine WL.nil ?_
  refine thenQ_n (hK4 _ _ ?_)
  refine WC.seq (fun K5 hK5 => ?_)
  refine WC.region ?_
  refine WL.op rfl (opW.ifaceI rfl ?_)
  refine WL.op rfl (opW.assignV (v := .iface 46 (.int .i64 20)) rfl ?_)
  refine WL.nil ?_
  refine thenQ_n (hK5 _ _ ?_)
  refine WC.ret ?_
  refine thenQ_r ?_
  refine bodyQ_ret (.tmpV (v := .iface 46 (.int .i64 20)) rfl .nil) ?_
  rw [hst]
  exact ⟨s, rfl, ((hS.pick (e := ownE s.v 69 x.l) (by repeat constructor)).pick (e := blkE p (Enc.enc (⟨R, s, R.budget.units, x.space⟩ : Running)) 84) (by repeat constructor)).sub (by repeat with_reducible first | exact su1 _ | exact su2 _ | refine su3 ?_ | refine su4 ?_)⟩
 ·
  have hr0 := hc0
  try simp only [sq1,sq2,sq3,sq4,sq5,sq6,sq7,sq8,sq9,sq0] at hc0
  have hlim : ¬ (R.budget.units < x.units ∨ R.budget.units - x.units < 150) := by omega
  refine WC.skip ?_
  refine thenQ_n (hK2 _ _ ?_)
  refine WC.seq (fun K6 hK6 => ?_)
  refine WC.seq (fun K7 hK7 => ?_)
  refine WC.region ?_
  refine WL.op rfl (opW.moveV (v := .pointer (some ⟨p, 0, none⟩)) rfl ?_)
  refine WL.op rfl (opW.nilCheckB rfl ?_)
  refine WL.op rfl (opW.fieldAddrB rfl ?_)
  refine WL.op rfl (opW.loadV rfl (hS.ld1 (b := p) (cs := Enc.enc (⟨R, s, x.units, x.space⟩ : Running)) (by repeat constructor) (Running.at_units (⟨R, s, x.units, x.space⟩ : Running))) ?_)
  refine WL.op rfl (opW.add rfl rfl ((show IntKind.u64.wrap ((x.units : Int) + 150) = ((x.units + 150 : Nat) : Int) from nadd (b := 150) (by omega))) ?_)
  refine WL.op rfl (opW.nilCheckB rfl ?_)
  refine WL.op rfl (opW.fieldAddrB rfl ?_)
  refine WL.op0 (opW.storeF (b := p) (o := 49) (v := .int .u64 ((x.units + 150 : Nat) : Int)) (sz := 1) (cs := Enc.enc (⟨R, s, x.units, x.space⟩ : Running)) (cs' := Enc.enc (⟨R, s, x.units + 150, x.space⟩ : Running)) hS rfl rfl (by repeat constructor) rfl (by rw [Enc.size_eq]; decide) (one_int _ _) (Running.set_units (⟨R, s, x.units, x.space⟩ : Running) (x.units + 150)) ?_)
  intro w hS; replace hS := hS _ (by repeat constructor)
  refine WL.nil ?_
  refine thenQ_n (hK7 _ _ ?_)
  refine WC.seq (fun K8 hK8 => ?_)
  refine WC.region ?_
  refine WL.op rfl (opW.moveI rfl ?_)
  refine WL.op rfl (opW.moveV (v := .pointer (some ⟨p, 0, none⟩)) rfl ?_)
  refine WL.op rfl (opW.nilCheckB rfl ?_)
  refine WL.op rfl (opW.fieldAddrB rfl ?_)
  refine WL.op rfl (opW.fieldAddrB rfl ?_)
  refine WL.op rfl (opW.fieldAddrB rfl ?_)
  refine WL.op rfl (opW.loadV rfl (hS.ld1 (b := p) (cs := Enc.enc (⟨R, s, x.units + 150, x.space⟩ : Running)) (by repeat constructor) (Running.at_bad (⟨R, s, x.units + 150, x.space⟩ : Running))) ?_)
  refine WL.op rfl (opW.eql rfl rfl ?_)
  refine WL.nil ?_
  refine thenQ_n (hK8 _ _ ?_)
  refine WC.cond _ rfl (fun hc1 => ?_) (fun hc1 => ?_)
  ·
   have hr1 := hc1
   try simp only [sq1,sq2,sq3,sq4,sq5,sq6,sq7,sq8,sq9,sq0] at hc1
   have hst := stepF_21 (r := r) (q := q) hlim (by simpa using hc1)
   refine WC.seq (fun K9 hK9 => ?_)
   refine WC.region ?_
   refine WL.op rfl (opW.ifaceI rfl ?_)
   refine WL.op rfl (opW.assignV (v := .iface 46 (.int .i64 21)) rfl ?_)
   refine WL.nil ?_
   refine thenQ_n (hK9 _ _ ?_)
   refine WC.ret ?_
   refine thenQ_r ?_
   refine bodyQ_ret (.tmpV (v := .iface 46 (.int .i64 21)) rfl .nil) ?_
   rw [hst]
   exact ⟨s, rfl, ((hS.pick (e := ownE s.v 69 x.l) (by repeat constructor)).pick (e := blkE p (Enc.enc (⟨R, s, x.units + 150, x.space⟩ : Running)) 84) (by repeat constructor)).sub (by repeat with_reducible first | exact su1 _ | exact su2 _ | refine su3 ?_ | refine su4 ?_)⟩
  ·
   have hr1 := hc1
   try simp only [sq1,sq2,sq3,sq4,sq5,sq6,sq7,sq8,sq9,sq0] at hc1
   have hst1 := stepF_act (r := r) (q := q) hlim (by simpa using hc1)
   refine WC.skip ?_
   refine thenQ_n (hK6 _ _ ?_)
   refine WC.seq (fun K10 hK10 => ?_)
   refine WC.draw 17 (.look 1 (.look 2 (.look 3 (.look 4 (.look 5 (.look 6 (.look 7 (.look 8 (.look 9 (.look 10 (.one 0 (.one 11 (.look 12 (.look 13 (.look 14 (.look 15 (.look 16 .nil))))))))))))))))) (by kernel_rfl) (fun _ _ _ h => h) (fun w1 hw1 => ?_)
   replace hS := hS.bel hw1
   have hS1 := hS
   have hT := St.start w1
   obtain ⟨oo, hoo⟩ : ∃ o, progF (keyAt r c.program) = o := ⟨_, rfl⟩
   obtain ⟨fvx, hfv⟩ : ∃ u, oo.getD fz = u := ⟨_, rfl⟩
   refine ML.look rfl rfl rfl (fun w hw => (by have hS := hS1.bel hw; exact opW.moveV (v := .pointer (some ⟨p, 0, none⟩)) rfl ⟨rfl, rfl⟩)) ?_
   refine ML.look rfl rfl rfl (fun w hw => (by have hS := hS1.bel hw; exact opW.nilCheckB rfl ⟨rfl, rfl⟩)) ?_
   refine ML.look rfl rfl rfl (fun w hw => (by have hS := hS1.bel hw; exact opW.fieldAddrB rfl ⟨rfl, rfl⟩)) ?_
   refine ML.look rfl rfl rfl (fun w hw => (by have hS := hS1.bel hw; exact opW.fieldAddrB rfl ⟨rfl, rfl⟩)) ?_
   refine ML.look rfl rfl rfl (fun w hw => (by have hS := hS1.bel hw; exact opW.loadV rfl (hS.ld1 (b := p) (cs := Enc.enc (⟨R, s, x.units + 150, x.space⟩ : Running)) (by repeat constructor) (Running.at_r_roles (⟨R, s, x.units + 150, x.space⟩ : Running))) ⟨rfl, rfl⟩)) ?_
   refine ML.look rfl rfl rfl (fun w hw => (by have hS := hS1.bel hw; exact opW.fieldAddrB rfl ⟨rfl, rfl⟩)) ?_
   refine ML.look rfl rfl rfl (fun w hw => (by have hS := hS1.bel hw; exact opW.loadV rfl (hS.ld1 (b := b5) (cs := Enc.enc c) (by repeat constructor) (Instr.at_program c)) ⟨rfl, rfl⟩)) ?_
   refine ML.look rfl rfl rfl (fun w hw => (by have hS := hS1.bel hw; exact opW.idxV rfl ((hr.bel hS.old)) rfl (by omega) ⟨rfl, rfl⟩)) ?_
   refine ML.look rfl rfl rfl (fun w hw => (by have hS := hS1.bel hw; exact opW.fieldAddr rfl ((hr.bel hS.old).isP hp) ⟨rfl, rfl⟩)) ?_
   refine ML.look rfl rfl rfl (fun w hw => (by have hS := hS1.bel hw; exact opW.loadV rfl (Ld.ptA ((hr.bel hS.old).isPt hp) 0 (Role.ex_key _) (by rw [Enc.size_eq]; decide)) ⟨rfl, rfl⟩)) ?_
   refine ML.one rfl rfl rfl (opW.call (programs_ok _) rfl ?_)
   rintro _ w ⟨kvs, hkv, ⟨r61, rfl, hge, hmb⟩, hw⟩; replace hT := hT.newMap hw hmb hge
   refine ⟨hT.old, ?_⟩
   have hS := hS1.merge hT
   try simp only [List.cons_append, List.nil_append] at hS
   refine ML.one rfl rfl rfl (opW.lookup2ZB (b := oo.isSome) (u := fvx) (κ := Key) (ν := Value) (k := r[c.program.toNat].key) (vv := idV) (kvs := kvs) (z0 := fz) (inferInstanceAs (ZeroT Tryz.prog _ .nilFunc)) (hS.map (by repeat constructor)) rfl rfl (by rw [hkv, ← keyAt_eq hp, hoo]; exact hfv) (by rw [hkv, ← keyAt_eq hp, hoo]) ?_)
   refine ⟨hT.old, ?_⟩
   have hS := hS1.merge hT
   try simp only [List.cons_append, List.nil_append] at hS
   refine ML.look rfl rfl rfl (fun w hw => (by have hS := hS1.bel hw; exact opW.moveV (v := .tuple #[fvx, .bool oo.isSome]) rfl ⟨rfl, rfl⟩)) ?_
   refine ML.look rfl rfl rfl (fun w hw => (by have hS := hS1.bel hw; exact opW.extract rfl rfl ⟨rfl, rfl⟩)) ?_
   refine ML.look rfl rfl rfl (fun w hw => (by have hS := hS1.bel hw; exact opW.extract rfl rfl ⟨rfl, rfl⟩)) ?_
   refine ML.look rfl rfl rfl (fun w hw => (by have hS := hS1.bel hw; exact opW.assignV (v := fvx) rfl ⟨rfl, rfl⟩)) ?_
   refine ML.look rfl rfl rfl (fun w hw => (by have hS := hS1.bel hw; exact opW.assignB rfl ⟨rfl, rfl⟩)) ?_
   refine ML.nil ?_
   refine thenQ_n (hK10 _ _ ?_)
   refine WC.seq (fun K11 hK11 => ?_)
   refine WC.seq (fun K12 hK12 => ?_)
   refine WC.region ?_
   refine WL.op rfl (opW.moveB rfl ?_)
   refine WL.op rfl (opW.not rfl ?_)
   refine WL.nil ?_
   refine thenQ_n (hK12 _ _ ?_)
   refine WC.cond _ rfl (fun hc2 => ?_) (fun hc2 => ?_)
   ·
    have hr2 := hc2
    try simp only [sq1,sq2,sq3,sq4,sq5,sq6,sq7,sq8,sq9,sq0] at hc2
    have hno : progF (keyAt r c.program) = none := by rw [hoo]; cases oo with | none => rfl | some y => cases hr2
    obtain ⟨hn1, hn2⟩ := progF_none (k := keyAt r c.program) (by rw [hno]; rfl)
    have hst := hst1.trans (actF_n (by rw [← hq]; exact hn1) (by rw [← hq]; exact hn2))
    refine WC.seq (fun K13 hK13 => ?_)
    refine WC.region ?_
    refine WL.op rfl (opW.ifaceI rfl ?_)
    refine WL.op rfl (opW.assignV (v := .iface 46 (.int .i64 19)) rfl ?_)
    refine WL.nil ?_
    refine thenQ_n (hK13 _ _ ?_)
    refine WC.ret ?_
    refine thenQ_r ?_
    refine bodyQ_ret (.tmpV (v := .iface 46 (.int .i64 19)) rfl .nil) ?_
    rw [hst]
    exact ⟨s, rfl, ((hS.pick (e := ownE s.v 69 x.l) (by repeat constructor)).pick (e := blkE p (Enc.enc (⟨R, s, x.units + 150, x.space⟩ : Running)) 84) (by repeat constructor)).sub (by repeat with_reducible first | exact su1 _ | exact su2 _ | refine su3 ?_ | refine su4 ?_)⟩
   ·
    have hr2 := hc2
    try simp only [sq1,sq2,sq3,sq4,sq5,sq6,sq7,sq8,sq9,sq0] at hc2
    obtain ⟨y, hy⟩ : ∃ y, oo = some y := by cases oo with | none => cases hr2 | some y => exact ⟨y, rfl⟩
    obtain rfl : fvx = y := by rw [← hfv, hy]; rfl
    refine WC.skip ?_
    refine thenQ_n (hK11 _ _ ?_)
    refine WC.seq (fun K14 hK14 => ?_)
    refine WC.region ?_
    refine WL.op rfl (opW.moveV (v := fvx) rfl ?_)
    refine WL.op rfl (opW.moveV (v := .pointer (some ⟨p, 0, none⟩)) rfl ?_)
    refine WL.op rfl (opW.loadV rfl (hS.ldA (b := b5) (cs := Enc.enc c) (by repeat constructor) (Enc.size_eq c)) ?_)
    refine WL.op rfl (opW.callV rfl (prog_call wb w _ p R s x c q r hq hp (progF_some (hoo.trans hy)) ((hS.pick (e := ownE s.v 69 x.l) (by repeat constructor)).pick (e := blkE p (Enc.enc (⟨R, s, x.units + 150, x.space⟩ : Running)) 84) (by repeat constructor)) hr hql hdl hlb hlw) rfl ?_)
    rintro _ w ⟨s2, rfl, hS⟩
    refine WL.op rfl (opW.assignV (v := errV (actF r q { x with units := x.units + 150 }).1) rfl ?_)
    refine WL.nil ?_
    refine thenQ_n (hK14 _ _ ?_)
    refine WC.ret ?_
    refine bodyQ_ret (.tmpV (v := errV (actF r q { x with units := x.units + 150 }).1) rfl .nil) ?_
    rw [hst1]
    exact ⟨s2, rfl, hS.sub (by repeat with_reducible first | exact su1 _ | exact su2 _ | refine su3 ?_ | refine su4 ?_)⟩

end Go.Fer
