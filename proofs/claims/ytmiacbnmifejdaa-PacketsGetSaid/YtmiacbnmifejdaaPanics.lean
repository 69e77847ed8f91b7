/- Library (panics): functions that return or give up with a value; a function that puts off a call that takes it back. No condition: rules alone. -/
import Derived.Test.YtmiacbnmifejdaaWides
import Derived.Recover
set_option linter.all false
namespace Go.Fer
open Go Go.RowKit

def pe (v : Value) : PanicEntry := { v := v, recovered := false }
/-- returns, or gives up with a value -/
@[irreducible] def RetP (P : Program) (g : FuncId) (args : Array Value) (w : World) (R E : Value → World → Prop) : Prop :=
  Calls P g args w fun e w' => (∃ v, e = .returned v ∧ R v w') ∨ (∃ v, e = .panicked [pe v] ∧ E v w')
theorem RetP.mono {P : Program} {g : FuncId} {args : Array Value} {w : World} {R R' E E' : Value → World → Prop} (h : RetP P g args w R E) (hr : ∀ v w', R v w' → R' v w') (he : ∀ v w', E v w' → E' v w') : RetP P g args w R' E' := by
  unfold RetP at *
  exact Calls.mono h fun e w' h => h.imp (fun ⟨v, he, hv⟩ => ⟨v, he, hr _ _ hv⟩) (fun ⟨v, h1, hv⟩ => ⟨v, h1, he _ _ hv⟩)
theorem RetP.ret {P : Program} {g : FuncId} {args : Array Value} {w : World} {R : Value → World → Prop} {E : Value → World → Prop} (h : RetP P g args w R E) (he : ∀ v w', ¬ E v w') : Ret P g args w R := by
  unfold RetP at h; unfold Ret
  exact Calls.mono h fun e w' h => h.elim id (fun ⟨v, _, hv⟩ => absurd hv (he _ _))
theorem Ret.retP {P : Program} {g : FuncId} {args : Array Value} {w : World} {R E : Value → World → Prop} (h : Ret P g args w R) : RetP P g args w R E := by
  unfold Ret at h; unfold RetP
  exact Calls.mono h fun e w' h => .inl h

@[irreducible] def opWP (P : Program) (f : Fr) (o : Oper) (w : World) (R E : Value → World → Prop) : Prop :=
  match (execOp (ev f) o).run P w with
  | .ok (.value v) w' => R v w'
  | .ok .skip w' => R undef w'
  | .ok (.enter g args) w' => Calls P g args w' fun e w'' => (∃ v, e = .returned v ∧ R v w'') ∨ (∃ v, e = .panicked [pe v] ∧ E v w'')
  | .halt (.panic v) w' => E v w'
  | _ => False
theorem wp_of_opWP [D : Dfr] {P : Program} {n : Nat} {a : Act} {f : Fr} {o : Oper} {w : World} {R E : Value → World → Prop} {K : Act → World → Prop} {Q : Exit → Act → World → Prop}
    (hrel : Rel n a f) (h : opWP P f o w R E) (hk : ∀ v w', R v w' → K (a.put o.dst v) w') (hp : ∀ v w', E v w' → Q (.panic [pe v]) a w') : o.wp P a w K Q := by
  unfold opWP at h
  unfold Oper.wp
  rw [hrel.eval]
  generalize (execOp (ev f) o).run P w = r at *
  cases r with
  | ok x w' =>
    cases x <;> simp only [Oper.upon] at * <;> try exact hk _ _ h
    all_goals first
      | exact (h : False).elim
      | (refine Calls.mono h fun e w'' he => ?_
         rcases he with ⟨v, he, hv⟩ | ⟨v, he, hv⟩
         · subst he; exact hk _ _ hv
         · subst he; exact hp _ _ hv)
  | halt x w' =>
    cases x <;> simp only [Oper.upon] at * <;> first
      | exact hp _ _ h
      | exact (h : False).elim
section
variable [D : Dfr] {P : Program} {n nh : Nat} {I : World → Prop} {ops : Array Oper} {Q : Exit → Fr → World → Prop} {r : Sched} {f : Fr} {w : World}
theorem WL.consP {d : Option Tmp} {op : Op} {T : TypeId} {pos : String} {af : Array Edge} {rest : List Oper}
    (h : opWP P f ⟨d, op, T, pos, af, none⟩ w (fun v w' => WL P n ops Q rest (putO f d v) w') (fun v w' => Q (.panic [pe v]) f w'))
    (hd : ∀ x, d = some x → x < n) : WL P n ops Q (⟨d, op, T, pos, af, none⟩ :: rest) f w := by
  unfold WL at h ⊢
  intro a ha
  refine wpList_plain rfl fun K hK => wp_of_opWP ha h (fun v w' hv => hK _ _ ?_) (fun v w' hv => ⟨f, ha, hv⟩)
  exact hv _ (ha.put hd v)
theorem WL.opP {d : Nat} {op : Op} {T : TypeId} {pos : String} {af : Array Edge} {rest : List Oper} (hd : Nat.blt d n = true)
    (h : opWP P f ⟨some d, op, T, pos, af, none⟩ w (fun v w' => WL P n ops Q rest (upd f d v) w') (fun v w' => Q (.panic [pe v]) f w')) :
    WL P n ops Q (⟨some d, op, T, pos, af, none⟩ :: rest) f w :=
  WL.consP (d := some d) h (by intro x hx; cases hx; simpa using hd)
theorem WL.op0P {op : Op} {T : TypeId} {pos : String} {af : Array Edge} {rest : List Oper}
    (h : opWP P f ⟨none, op, T, pos, af, none⟩ w (fun _ w' => WL P n ops Q rest f w') (fun v w' => Q (.panic [pe v]) f w')) :
    WL P n ops Q (⟨none, op, T, pos, af, none⟩ :: rest) f w :=
  WL.consP (d := none) h (by intro x hx; cases hx)
theorem ML.oneP {i d : Nat} {op : Op} {T : TypeId} {pos : String} {af : Array Edge} (hi : ops[i]? = some ⟨some d, op, T, pos, af, none⟩) (hd : Nat.blt d n = true)
    (hlt : Nat.blt i nh = true) (h : opWP P f ⟨some d, op, T, pos, af, none⟩ w (fun v w' => I w' ∧ ML P n ops nh I Q r (upd f d v) w') (fun v w' => Q (.panic [pe v]) f w')) : ML P n ops nh I Q (.one i r) f w := by
  have hlt : i < nh := by simpa using hlt
  refine ML.one' hi fun a ha => ?_
  unfold wpOp
  simp only [hi, Region.wanted, if_true]
  exact .inl (wp_of_opWP ha h (fun v w' ⟨hb, hm⟩ => ⟨⟨fun _ => hb, .inl hlt⟩, _, ha.put (dst := some d) (by intro x hx; cases hx; simpa using hd) v, hm⟩) (fun v w' hv => ⟨f, ha, hv⟩))
theorem ML.putP {i d : Nat} {op : Op} {T : TypeId} {pos : String} {af : Array Edge} (hi : ops[i]? = some ⟨some d, op, T, pos, af, none⟩) (hd : Nat.blt d n = true) (hlt : Nat.ble nh i = true) (hall : ones r = true)
    (h : opWP P f ⟨some d, op, T, pos, af, none⟩ w (fun v w' => ML P n ops nh I Q r (upd f d v) w') (fun v w' => Q (.panic [pe v]) f w')) : ML P n ops nh I Q (.one i r) f w := by
  have hlt : nh ≤ i := by simpa using hlt
  refine ML.one' hi fun a ha => ?_
  unfold wpOp
  simp only [hi, Region.wanted, if_true]
  exact .inl (wp_of_opWP ha h (fun v w' hm => ⟨⟨fun h => absurd h (by omega), .inr hall⟩, _, ha.put (dst := some d) (by intro x hx; cases hx; simpa using hd) v, hm⟩) (fun v w' hv => ⟨f, ha, hv⟩))
end
section
variable {P : Program} {f : Fr} {w : World} {R E : Value → World → Prop} {d : Option Tmp} {T : TypeId} {pos : String} {af : Array Edge} {gd : Option (Nat × Bool)}
theorem opWP.call {g : FuncId} [hg : FnT P g] {args : Array Operand} {ts : Array TypeId} {vs : List Value} {R' E' : Value → World → Prop} (hc : RetP P g vs.toArray w R' E') (hargs : args.toList.map (ev f) = vs) (h2 : ∀ v w', E' v w' → E v w') (h : ∀ v w', R' v w' → R v w') :
    opWP P f ⟨d, .call { callee := .value (.func g), args := args, argTypes := ts }, T, pos, af, gd⟩ w R E := by
  unfold RetP at hc
  have ha : args.map (ev f) = vs.toArray := by subst hargs; apply Array.ext'; simp
  rw [← ha] at hc
  have hr : (execOp (ev f) ⟨d, .call { callee := .value (.func g), args := args, argTypes := ts }, T, pos, af, gd⟩).run P w = .ok (.enter g (args.map (ev f))) w := by
    simp [execOp, resolve, ev, Deferred.ofValue, Go.invoke, run_callFunc hg]
  unfold opWP
  rw [hr]
  exact Calls.mono hc fun e w' h' => h'.imp (fun ⟨v, he, hv⟩ => ⟨v, he, h _ _ hv⟩) (fun ⟨v, he, hv⟩ => ⟨v, he, h2 _ _ hv⟩)
/-- a call of a method's value -/
theorem opWP.callM {g : FuncId} [hg : FnT P g] {x : Operand} {args : Array Operand} {ts : Array TypeId} {vs fs : List Value} {R' E' : Value → World → Prop} (hx : ev f x = .func (.func g) fs.toArray #[]) (hc : RetP P g (fs ++ vs).toArray w R' E') (hargs : args.toList.map (ev f) = vs) (h2 : ∀ v w', E' v w' → E v w') (h : ∀ v w', R' v w' → R v w') :
    opWP P f ⟨d, .call { callee := .value x, args := args, argTypes := ts }, T, pos, af, gd⟩ w R E := by
  unfold RetP at hc
  have ha : (fs ++ vs).toArray = fs.toArray ++ args.map (ev f) ++ #[] := by subst hargs; apply Array.ext'; simp
  rw [ha] at hc
  have hr : (execOp (ev f) ⟨d, .call { callee := .value x, args := args, argTypes := ts }, T, pos, af, gd⟩).run P w = .ok (.enter g (fs.toArray ++ args.map (ev f) ++ #[])) w := by
    simp only [execOp, resolve, hx, Deferred.ofValue, Sem.run_bind, Sem.run_pure, Result.andThen_ok, Go.invoke, run_callFunc hg]
  unfold opWP
  rw [hr]
  exact Calls.mono hc fun e w' h' => h'.imp (fun ⟨v, he, hv⟩ => ⟨v, he, h _ _ hv⟩) (fun ⟨v, he, hv⟩ => ⟨v, he, h2 _ _ hv⟩)
/-- giving up -/
theorem opWP.panic {x : Operand} {t : TypeId} {v : Value} (hx : ev f x = .iface t v) (h : E (.iface t v) w) : opWP P f ⟨d, .panic x, T, pos, af, gd⟩ w R E := by
  have hr : (execOp (ev f) ⟨d, .panic x, T, pos, af, gd⟩).run P w = .halt (.panic (.iface t v)) w := by
    simp [execOp, hx, Instr.panic]
  unfold opWP
  rw [hr]
  exact h
end
def bodyQP (P : Program) (rs : List ResultVar) (R E : Value → World → Prop) : Exit → Fr → World → Prop
  | .normal, f, w | .ret, f, w => ∃ vs, ResV P f w rs vs ∧ R (resOne vs) w
  | .panic c, _, w => ∃ v, c = [pe v] ∧ E v w
  | _, _, _ => False
theorem bodyQP_ret {P : Program} {rs : List ResultVar} {R E : Value → World → Prop} {f : Fr} {w : World} {vs : List Value} (h : ResV P f w rs vs) (hR : R (resOne vs) w) : bodyQP P rs R E .ret f w := ⟨vs, h, hR⟩
theorem bodyQP_end {P : Program} {rs : List ResultVar} {R E : Value → World → Prop} {f : Fr} {w : World} {vs : List Value} (h : ResV P f w rs vs) (hR : R (resOne vs) w) : bodyQP P rs R E .normal f w := ⟨vs, h, hR⟩
theorem rel_enter {args : List Value} {n m : Nat} (hn : m = n) (hle : args.length ≤ n) : Rel n { tmps := args.toArray ++ Array.replicate (m - args.toArray.size) undef, defers := [] } (fr0 args) := by
  refine ⟨rfl, by simp [hn]; omega, fun i => ?_⟩
  simp only [fr0, Array.getD_eq_getD_getElem?, Array.getElem?_append, List.size_toArray]
  split
  · simp
  · rename_i hi
    have : args[i]? = none := List.getElem?_eq_none (by omega)
    simp only [this, Option.getD_none, Array.getElem?_replicate]
    split <;> rfl
theorem RetP.enter {P : Program} {g : FuncId} {fn : Func} {c : Code} {args : List Value} {w : World} {R E : Value → World → Prop} {n : Nat} {rs : List ResultVar}
    (hf : P.funcs[g]? = some fn) (hb : fn.body = some c) (hn : fn.ntmps = n) (hr : fn.results = rs.toArray) (hargs : Nat.ble args.length n = true)
    (h : WC P n c (bodyQP P rs R E) (fr0 args) w) : RetP P g args.toArray w R E := by
  unfold RetP
  refine calls_of_wp hf hb ?_
  unfold WC at h
  have hrel := rel_enter hn (by simpa using hargs : args.length ≤ n)
  have hrs : fn.results.toList = rs := by rw [hr]
  subst hrs
  refine wp_mono (h _ hrel) fun e a w ⟨f', hr, q⟩ => ?_
  cases e with
  | normal =>
    obtain ⟨vs, hv, hR⟩ := q
    exact ⟨hr.defers, _, hv.run hr, .inl ⟨_, rfl, hR⟩⟩
  | ret =>
    obtain ⟨vs, hv, hR⟩ := q
    exact ⟨hr.defers, _, hv.run hr, .inl ⟨_, rfl, hR⟩⟩
  | panic c =>
    obtain ⟨v, rfl, hR⟩ := q
    exact ⟨hr.defers, .inr ⟨_, rfl, hR⟩⟩
  | _ => exact (q : False).elim

theorem Rel.out {D : Dfr} {n : Nat} {a : Act} {f : Fr} (h : @Rel D n a f) : a.defers = D.ds ∧ a.tmps.size = n ∧ ∀ i, a.tmps.getD i undef = f i := ⟨h.defers, h.size, h.at_⟩

/-! a function that is called at another one's end, and takes back what that gave up with -/
theorem wpSOp {P : Program} {ops : Array Oper} {Q : Exit → Act → List Frame → World → Prop} {i : Nat} {o : Oper} {rest : List Nat} {a : Act} {cs : List Frame} {w w' : World} {v : Value} (hi : ops[i]? = some o) (hg : o.guard = none)
    (hr : (execOp a.eval o).run P w = .ok (.value v) w') (h : wpOpsS P ops Q rest (a.put o.dst v) cs w') : wpOpsS P ops Q (i :: rest) a cs w := by
  simp only [wpOpsS, hi, Region.wanted, hg, if_true, hr]
  simpa only [Oper.upon] using h
/-- an end without a panic -/
def endQ (R : World → Prop) : Exit → Fr → World → Prop
  | .normal, _, w | .ret, _, w => R w
  | _, _, _ => False
class IfaceT (P : Program) (T : TypeId) : Prop where out : ∃ ms, P.underlying T = some (.interface ms)
section
variable {P : Program} {f : Fr} {w : World} {R : Value → World → Prop} {d : Option Tmp} {T : TypeId} {pos : String} {af : Array Edge} {gd : Option (Nat × Bool)}
theorem opW.neqNilI {s t : TypeId} {x : Operand} {v : Value} {b : Bool} [hs : IfaceT P s] (hx : ev f x = v) (hv : (v = .nilIface ∧ b = false) ∨ (∃ u y, v = .iface u y) ∧ b = true) (h : R (.bool b) w) : opW P f ⟨d, .binOp .neq s x (.const .nilIface) t, T, pos, af, gd⟩ w R := by
  obtain ⟨ms, hms⟩ := hs.out
  refine opW.of_run (v := .bool b) (w' := w) ?_ h
  have hq : (Op.equal s v .nilIface).run P w = .ok (!b) w := by
    unfold Op.equal
    show (Op.equalIn (9999 + 1) s v .nilIface).run P w = .ok (!b) w
    generalize 9999 = k
    rcases hv with ⟨rfl, rfl⟩ | ⟨⟨u, y, rfl⟩, rfl⟩ <;> simp [Op.equalIn, run_underlying hms]
  have e1 : (eqGuard .neq s x (.const .nilIface) v .nilIface).run P w = .ok () w := by
    rcases hv with ⟨rfl, rfl⟩ | ⟨⟨u, y, rfl⟩, rfl⟩ <;> simp [eqGuard]
  have e2 : binOp .neq s v .nilIface = (do pure (.bool (!(← Op.equal s v .nilIface)))) := by
    rcases hv with ⟨rfl, rfl⟩ | ⟨⟨u, y, rfl⟩, rfl⟩ <;> rfl
  have e3 : ev f (.const .nilIface) = .nilIface := rfl
  simp only [execOp, hx, e3, e2, Sem.run_bind, e1, Result.andThen_ok, hq, Sem.run_pure, Bool.not_not]
theorem opW.assertOk {s xT : TypeId} {x : Operand} {v : Value} {zs : List (Array Value)} [hm : StructT P s zs] (hx : ev f x = .iface s v) (h : R (.tuple #[v, .bool true]) w) : opW P f ⟨d, .typeAssert x xT s true, T, pos, af, gd⟩ w R := by
  refine opW.of_run (v := .tuple #[v, .bool true]) (w' := w) ?_ h
  obtain ⟨fs, hu, _⟩ := hm.out
  simp [execOp, hx, Instr.typeAssert, run_underlying hu]
end
theorem callsD_rec {P : Program} {g : FuncId} {fn : Func} {c2 : Code} {args : List Value} {w : World} {n id d1 d2 : Nat} {T1 T2 : TypeId} {pos1 pos2 : String} {af1 af2 : Array Edge} {ts : Array TypeId} {R : World → Prop} {u u' : FrameMode} {v : Value}
    (hf : P.funcs[g]? = some fn) (hb : fn.body = some (.seq (.region id [⟨some d1, .call { callee := .builtin .recover, args := #[], argTypes := ts }, T1, pos1, af1, none⟩, ⟨some d2, .assign (.tmp d1), T2, pos2, af2, none⟩].toArray false) c2))
    (hn : fn.ntmps = n) (hr : fn.results = #[]) (hargs : Nat.ble args.length n = true) (hd1 : Nat.blt d1 n = true) (hd2 : Nat.blt d2 n = true)
    (hu : (u = .returning ∧ u' = .returning ∧ v = .nilIface) ∨ (u = .panicking [pe v] ∧ u' = .panicking [{ v := v, recovered := true }]))
    (h : WC P n c2 (endQ R) (upd (upd (fr0 args) d1 v) d2 v) w) :
    CallsD P g args.toArray u w (fun e m w' => m = u' ∧ ∃ x, e = .returned x ∧ R w') := by
  refine callsD_of_wpS hf hb fun c₀ cs hm => ?_
  have hrel := rel_enter hn (by simpa using hargs : args.length ≤ n)
  refine wpS_seq (wpS_region ?_)
  unfold WC at h
  have hd1' : d1 < n := by simpa using hd1
  have hd2' : d2 < n := by simpa using hd2
  generalize hA : ({ tmps := args.toArray ++ Array.replicate (fn.ntmps - args.toArray.size) undef, defers := [] } : Act) = a at *
  have hrel1 := hrel.put (dst := some d1) (by intro x hx; cases hx; exact hd1') v
  have hrel2 := hrel1.put (dst := some d2) (by intro x hx; cases hx; exact hd2') v
  have hev : (a.put (some d1) v).eval (.tmp d1) = v := by
    rw [hrel1.eval]; simp [ev, putO, upd_same]
  have hrec : ∀ w, (execOp a.eval ⟨some d1, .call { callee := .builtin .recover, args := #[], argTypes := ts }, T1, pos1, af1, none⟩).run P w = .ok .recover w := by
    intro w; simp [execOp, resolve, Go.invoke, builtin]
  have key : ∀ cs', cs' = { c₀ with mode := u' } :: cs → wpOpsS P [⟨some d1, .call { callee := .builtin .recover, args := #[], argTypes := ts }, T1, pos1, af1, none⟩, ⟨some d2, .assign (.tmp d1), T2, pos2, af2, none⟩].toArray (Exit.thenS (c2.wpS P (bodyPostS P fn c₀ cs fun e m w' => m = u' ∧ ∃ x, e = .returned x ∧ R w')) (bodyPostS P fn c₀ cs fun e m w' => m = u' ∧ ∃ x, e = .returned x ∧ R w')) [1] (a.put (some d1) v) cs' w := by
    intro cs' hcs
    refine wpSOp (o := ⟨some d2, .assign (.tmp d1), T2, pos2, af2, none⟩) (v := v) (w' := w) rfl rfl (by simp [execOp, hev]) ?_
    show Code.wpS _ _ _ _ _ _
    refine wpS_of_wp (wp_mono (h _ hrel2) ?_)
    rintro e a' w' ⟨f', hr', hR⟩
    have hres : (results fn a'.tmps).run P w' = .ok (.tuple #[]) w' := by unfold results; simp [hr]
    cases e with
    | normal => exact ⟨hr'.defers, u', hcs, _, hres, rfl, _, rfl, hR⟩
    | ret => exact ⟨hr'.defers, u', hcs, _, hres, rfl, _, rfl, hR⟩
    | _ => exact (hR : False).elim
  show wpOpsS P _ _ [0, 1] a (c₀ :: cs) w
  unfold wpOpsS
  simp only [List.getElem?_toArray, List.getElem?_cons_zero, Region.wanted, if_true, hrec]
  rcases hu with ⟨h1, h2, h3⟩ | ⟨h1, h2⟩
  · have e : recoverD (c₀ :: cs) = none := by simp [recoverD, hm, h1]
    simp only [e]
    subst h3
    refine key _ ?_
    rw [h2, ← h1, ← hm]
  · have e : recoverD (c₀ :: cs) = some (v, { c₀ with mode := u' } :: cs) := by simp [recoverD, hm, h1, h2, pe]
    simp only [e]
    exact key _ rfl
/-- how a function ends that puts off one call -/
theorem leaves_one {P : Program} {fn : Func} {tmps : Array Value} {R : Ending → World → Prop} {g : FuncId} {cap : Array Value} {u : FrameMode} {w : World} [hg : FnT P g] {R1 : World → Prop} {m : FrameMode} (hu : u ≠ .run) (hm : settle m = .returning)
    (h : CallsD P g cap u w (fun e u' w' => u' = m ∧ ∃ x, e = .returned x ∧ R1 w')) (hk : ∀ w', R1 w' → ∃ v, (results fn tmps).run P w' = .ok v w' ∧ R (.returned v) w') :
    Leaves P fn tmps R [{ target := .fn (.func g) cap, args := #[] }] u w := by
  refine leaves_cons (f := g) (args := cap) hu (by simp [Go.invoke, run_callFunc hg]) (h.mono ?_)
  rintro e u' w' ⟨rfl, x, rfl, hR⟩
  obtain ⟨v, h1, h2⟩ := hk _ hR
  simp only [hm]
  exact ⟨v, h1, h2⟩
/-- a function that puts off one call of a closure: its body in three parts -/
theorem Ret.enterD {P : Program} {g gc : FuncId} [hgc : FnT P gc] {fn : Func} {cA cR : Code} {args : List Value} {w : World} {R : Value → World → Prop} {n id d : Nat} {rs : List ResultVar} {caps : Array Operand} {cs : Fr → List Value} {T1 T2 : TypeId} {pos1 pos2 : String} {af1 af2 : Array Edge}
    {J : Fr → World → Prop} {ts : Array TypeId}
    (hf : P.funcs[g]? = some fn) (hb : fn.body = some (.seq cA (.seq (.region id [⟨some d, .makeFunc (.func gc) #[] caps, T1, pos1, af1, none⟩, ⟨none, .defer { callee := .value (.tmp d), args := #[], argTypes := ts }, T2, pos2, af2, none⟩].toArray false) cR)))
    (hn : fn.ntmps = n) (hr : fn.results = rs.toArray) (hargs : Nat.ble args.length n = true) (hd : Nat.blt d n = true)
    (hA : WC P n cA (fun e f w' => e = .normal ∧ J f w') (fr0 args) w)
    (hcs : ∀ f, caps.toList.map (ev f) = cs f)
    (hR : ∀ f w' (l : List Value) (D : Dfr), J f w' → cs f = l → D = ⟨[{ target := .fn (.func gc) l.toArray, args := #[] }]⟩ → @WC D P n cR (fun e f' w'' => ∃ m m' : FrameMode, (e = .normal ∧ m = .returning ∨ e = .ret ∧ m = .returning ∨ ∃ c, e = .panic c ∧ m = .panicking c) ∧ m ≠ .run ∧ settle m' = .returning ∧
      ∃ R1 : World → Prop, CallsD P gc l.toArray m w'' (fun e u' w3 => u' = m' ∧ ∃ x, e = .returned x ∧ R1 w3) ∧ ∀ w3, R1 w3 → ∃ vs, ResV P f' w3 rs vs ∧ R (resOne vs) w3) (upd f d (.func (.func gc) #[] l.toArray)) w') : Ret P g args.toArray w R := by
  unfold Ret
  refine calls_of_wp_defers hf hb ?_
  have hrel := rel_enter hn (by simpa using hargs : args.length ≤ n)
  have hd' : d < n := by simpa using hd
  have hrs : fn.results.toList = rs := by rw [hr]
  subst hrs
  unfold WC at hA
  refine wp_seq (wp_mono (hA _ hrel) ?_)
  rintro e a w1 ⟨f, ha, rfl, hJ⟩
  have hR := hR f w1 _ _ hJ rfl rfl
  show Code.wp _ _ _ _ _
  refine wp_seq (wp_region_lit ?_)
  have e1 : (execOp a.eval ⟨some d, .makeFunc (.func gc) #[] caps, T1, pos1, af1, none⟩).run P w1 = .ok (.value (.func (.func gc) #[] (cs f).toArray)) w1 := by
    have : caps.map (ev f) = (cs f).toArray := by rw [← hcs f]; apply Array.ext'; simp
    rw [ha.eval]; simp [execOp, Instr.makeFunc, this]
  have ha1 := ha.put (dst := some d) (by intro x hx; cases hx; exact hd') (.func (.func gc) #[] (cs f).toArray)
  have e2 : (execOp (a.put (some d) (.func (.func gc) #[] (cs f).toArray)).eval ⟨none, .defer { callee := .value (.tmp d), args := #[], argTypes := ts }, T2, pos2, af2, none⟩).run P w1 = .ok (.defer { target := .fn (.func gc) (cs f).toArray, args := #[] }) w1 := by
    rw [ha1.eval]; simp [execOp, resolve, ev, putO, upd_same, Deferred.ofValue]
  refine wpList_plain rfl fun K hK => ?_
  unfold Oper.wp
  rw [e1]
  refine hK _ _ ?_
  refine wpList_plain rfl fun K hK => ?_
  unfold Oper.wp
  rw [e2]
  refine hK _ _ (wpList_nil ?_)
  show Code.wp _ _ _ _ _
  have hrelD : @Rel ⟨[{ target := .fn (.func gc) (cs f).toArray, args := #[] }]⟩ n { (a.put (some d) (.func (.func gc) #[] (cs f).toArray)) with defers := [{ target := .fn (.func gc) (cs f).toArray, args := #[] }] } (upd f d (.func (.func gc) #[] (cs f).toArray)) :=
    @Rel.mk ⟨_⟩ _ _ _ rfl ha1.size ha1.at_
  have hdf : a.defers = [] := ha.defers
  unfold WC at hR
  simp only [Act.put, hdf] at hrelD ⊢
  refine wp_mono (hR _ hrelD) ?_
  rintro e a' w' ⟨f', hr', m, m', hm, hmr, hset, R1, hC, hres⟩
  have hL : Leaves P fn a'.tmps (fun e w' => ∃ v, e = .returned v ∧ R v w') [{ target := .fn (.func gc) (cs f).toArray, args := #[] }] m w' := by
    refine leaves_one hmr hset hC fun w3 h3 => ?_
    obtain ⟨vs, hv, hRv⟩ := hres w3 h3
    exact ⟨_, hv.run (a := { a' with defers := [] }) (n := n) (Rel.mk rfl hr'.out.2.1 hr'.out.2.2), _, rfl, hRv⟩
  have hd3 := hr'.out.1
  simp only at hd3
  rcases hm with ⟨rfl, rfl⟩ | ⟨rfl, rfl⟩ | ⟨c, rfl, rfl⟩ <;> (show Leaves _ _ _ _ _ _ _; rw [hd3]; exact hL)
end Go.Fer
