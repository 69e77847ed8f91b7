/- one step, plainly -/
import Derived.Test.YtmibkfdpgmohfaaDoorK3
import Derived.Test.YtmibkfdpgmohfaaDoorK5
import Derived.Test.YtmibkfdpgmohfaaDoorP
set_option linter.all false
namespace Go.Fer
open Go Go.Proofs Go.RowKit

theorem as_ret {wb w : World} {S : List Ent} {tb : Nat} {o : Outcome} {E : TypeId} (n : Int) (hg : ErrLaid w) (hS : St wb S w) (he : Has (blkE tb (Enc.enc o) E) S) :
    Ret Tryd.prog 26 #[.iface 50 (.int .i64 n), .iface 92 (.pointer (some ⟨tb, 0, none⟩))] w (fun u w' => u = .bool true ∧ ∀ S', Turn (blkE tb (Enc.enc o) E) (blkE tb (Enc.enc ({ o with fail := n } : Outcome)) E) S S' → St wb S' w') := by
  have hb := hS.blk he
  have hsz : (Enc.enc o).size = 6 := Enc.size_eq o
  unfold Ret
  refine Calls.mono (as_hit n tb (Enc.enc o) E w hg hb (by omega)) ?_
  rintro e w' ⟨rfl, rfl⟩
  refine ⟨_, rfl, rfl, fun S' hT => ?_⟩
  have b1 := Bel.alloc w (.cells #[.pointer (some ⟨tb, 0, none⟩)] 92)
  have b2 := Bel.alloc (A1 tb w) (.cells #[.pointer (some ⟨1, 92, none⟩), .pointer (some ⟨w.heap.size, 0, none⟩), .int .u64 150] 106)
  have b3 := Bel.alloc (A2 tb w) (.cells #[.pointer (some ⟨1, 92, none⟩), .pointer (some ⟨w.heap.size, 0, none⟩), .int .u64 150] 106)
  have b4 := Bel.alloc (A3 tb w) (.cells #[.int .i64 n] 50)
  have b := ((b1.trans b2).trans b3).trans b4
  have hb4 : (A4 n tb w).heap[tb]? = some (.cells (Enc.enc o) E (0, 0)) := b.get hb
  have heq : ((Enc.enc o).toList.take 0 ++ (Value.int .i64 n).cells.toList ++ (Enc.enc o).toList.drop (0 + (Value.int .i64 n).cells.toList.length)).toArray = Enc.enc ({ o with fail := n } : Outcome) := by
    rw [← Outcome.set_fail o n]
    unfold spl
    apply Array.ext'
    simp [Value.cells]
    rw [List.take_of_length_le (by simp)]
  rw [heq]
  refine St.turn ?_ ?_ ?_ (hS.bel b) hT
  · unfold blkE
    exact ⟨rfl, rfl, rfl, by simp [World.setRow], fun k _ hk => setRow_other _ tb k _ hk⟩
  · unfold blkE; exact setRow_heap _ tb _ _ E _ hb4
  · unfold blkE; intro k hk; exact .inl hk
theorem as_none (t : Value) (w : World) : Ret Tryd.prog 26 #[.nilIface, t] w (fun u w' => u = .bool false ∧ Bel w w') := by
  unfold Ret
  refine Calls.mono (as_nil t w) ?_
  rintro e w' ⟨rfl, rfl⟩
  exact ⟨_, rfl, rfl, Bel.refl _⟩
/-- an error, as the program has it: nil, or an Errno in an interface -/
def errV (e : Int) : Value := if e = 0 then .nilIface else .iface 50 (.int .i64 e)
theorem errV_0 : errV 0 = .nilIface := rfl
theorem errV_ne {e : Int} (h : e ≠ 0) : errV e = .iface 50 (.int .i64 e) := if_neg h

/-- an instruction, read -/
structure PI where
  p : UInt8
  ats : List UInt8
  dt : List UInt8
def InIs (w : World) (c : Instr) (q : PI) : Prop := c.program = q.p ∧ SlR w c.accounts.v q.ats ∧ SlR w c.data.v q.dt
theorem InIs.bel {w w' : World} {c : Instr} {q : PI} (hb : Bel w w') (h : InIs w c q) : InIs w' c q := ⟨h.1, h.2.1.bel hb, h.2.2.bel hb⟩
/-- what a running transaction has -/
structure XS where
  units : Nat
  space : Nat
  l : List Account
def keyAt (r : List Role) (p : UInt8) : Key := (r.getD p.toNat ⟨vz 32, false, false⟩).key
theorem keyAt_eq {r : List Role} {p : UInt8} (h : p.toNat < r.length) : keyAt r p = r[p.toNat].key := by unfold keyAt; rw [getD_of h]
/-- one instruction that has its units -/
def actF (r : List Role) (q : PI) (x : XS) : Int × XS :=
  if keyAt r q.p = budK then (0, x) else if keyAt r q.p = sysK then
    (if (doF x.l r q.ats q.dt).1 ≠ 0 then ((doF x.l r q.ats q.dt).1, x) else (0, { x with l := (doF x.l r q.ats q.dt).2.2, space := (x.space + (doF x.l r q.ats q.dt).2.1) % 18446744073709551616 }))
  else (19, x)
/-- one step -/
def stepF (r : List Role) (bu : Nat) (bad : Int) (i : Nat) (q : PI) (x : XS) : Int × XS :=
  if bu < x.units ∨ bu - x.units < 150 then (20, { x with units := bu }) else
  if (i : Int) = bad then (21, { x with units := x.units + 150 }) else actF r q { x with units := x.units + 150 }
theorem stepF_20 {r : List Role} {bu : Nat} {bad : Int} {i : Nat} {q : PI} {x : XS} (h : bu < x.units ∨ bu - x.units < 150) : stepF r bu bad i q x = (20, { x with units := bu }) := if_pos h
theorem stepF_21 {r : List Role} {bu : Nat} {bad : Int} {i : Nat} {q : PI} {x : XS} (h : ¬ (bu < x.units ∨ bu - x.units < 150)) (hi : (i : Int) = bad) : stepF r bu bad i q x = (21, { x with units := x.units + 150 }) := by unfold stepF; rw [if_neg h, if_pos hi]
theorem stepF_act {r : List Role} {bu : Nat} {bad : Int} {i : Nat} {q : PI} {x : XS} (h : ¬ (bu < x.units ∨ bu - x.units < 150)) (hi : ¬ (i : Int) = bad) : stepF r bu bad i q x = actF r q { x with units := x.units + 150 } := by unfold stepF; rw [if_neg h, if_neg hi]
theorem actF_b {r : List Role} {q : PI} {x : XS} (h : keyAt r q.p = budK) : actF r q x = (0, x) := if_pos h
theorem actF_s {r : List Role} {q : PI} {x : XS} (h : keyAt r q.p = sysK) : actF r q x = (if (doF x.l r q.ats q.dt).1 ≠ 0 then ((doF x.l r q.ats q.dt).1, x) else (0, { x with l := (doF x.l r q.ats q.dt).2.2, space := (x.space + (doF x.l r q.ats q.dt).2.1) % 18446744073709551616 })) := by
  unfold actF; rw [if_neg (fun e => bud_ne (e.symm.trans h)), if_pos h]
theorem actF_n {r : List Role} {q : PI} {x : XS} (h : keyAt r q.p ≠ budK) (h2 : keyAt r q.p ≠ sysK) : actF r q x = (19, x) := by unfold actF; rw [if_neg h, if_neg h2]
theorem Running.at_bu (x : Running) : (Enc.enc x)[42]? = some (.int .u64 (x.r.budget.units : Int)) := at_of_ex (i := 42) (Running.ex_r x) (Ready.at_budget_units x.r) (by decide)
theorem Running.at_bad (x : Running) : (Enc.enc x)[44]? = some (.int .i64 x.r.budget.bad) := at_of_ex (i := 44) (Running.ex_r x) (Ready.at_budget_bad x.r) (by decide)
theorem progF_some {k : Key} {v : Value} (h : progF k = some v) : (k = budK ∧ v = progBV) ∨ (k = sysK ∧ v = progSV) := by
  unfold progF at h
  split at h
  · next hk => cases h; exact .inl ⟨hk, rfl⟩
  · split at h
    · next hk => cases h; exact .inr ⟨hk, rfl⟩
    · cases h
theorem progF_none {k : Key} (h : (progF k).isSome = false) : k ≠ budK ∧ k ≠ sysK := by
  unfold progF at h
  split at h
  · cases h
  · next h1 =>
    split at h
    · cases h
    · next h2 => exact ⟨h1, h2⟩

end Go.Fer
